import Derived.Carry
import Derived.Deep.DeepHandedRow
import Derived.Lib.LaidTab
import Derived.OpenShut
import Derived.ProofKit
import Derived.Test.YtbpabjmnhggajaaGreatRows
import Derived.Test.YtbpabjmnhggajaaGreatOs33
import Derived.Test.YtbpabjmnhggajaaGreatOs35
namespace Go.Proofs.YtbpabjmnhggajaaGreat
set_option linter.unusedVariables false
set_option linter.unusedSimpArgs false
open Go.RowKit
section
open Go.ChangeShapes Go.WideShapes Go.ChangeAt Go.RowKit
section
variable {H:Type}{enc:TypeId × Value->H}{P:Program}
theorem yf (hl:laidOutB P=true) {W W':World}(hb:Below W.heap.size W W'):∀ {ts:List TypeId}{vs:List Value}{ds:List (DataW H)}{ps:List MemPlace},
  (∀ t ∈ ts,P.readableRec t=true/\t < P.types.size)->DataW.TrodAll enc P W 0 (fun _=>true) true ts vs ds ps->(∀ x ∈ ps,x.block < W.heap.size) ->
  DataW.TrodAll enc P W' 0 (fun b=>decide (b < W.heap.size)) true ts vs ds ps
 |[],vs,ds,ps,_,h,_=>by
  obtain⟨rfl,rfl,rfl⟩:=trodAll_nil h;exact trodAll_mk0
 |t::ts,vs,ds,ps,ht,h,aA=>by
  obtain⟨v,vs',d,ds',p,q,rfl,rfl,rfl,h1,h2⟩:=trodAll_cons h;obtain⟨hr,hs⟩:=ht t (by simp);exact trodAll_cons_mk (Below.trod hl hr hs h1 hb fun x hx=>aA x (by grind)) (yf hl hb (fun t ht'=>ht t (by grind)) h2 fun x hx=>aA x (by grind))
theorem Tb {f:Func}{s:ChangeSpec}{W W':World}{args:Array Value}{ds:List (DataW H)}{before:List MemPlace}{tb:TypeId}
  (hl:laidOutB P=true) (yg:∀ t ∈ f.params.toList,P.readableRec t=true/\t < P.types.size) (Vt:s.vars=[]) (jd:f.resultTypes=#[tb]) (U6:P.underlying tb=some .bool)
  (CW:s.fn H (ds++[])={ results:=[.lit (.bool true)],args:=ds }) (hW:DataW.Whole enc P f.params.toList s.vars false W args.toList ds [] before) (hb:Below W.heap.size W W') :
  s.post enc P f false true false false W args (.bool true) W':=by
 have hW':=hW;obtain⟨p,q,hA,hV,rfl,Bj,DC⟩:=hW;rw[Vt] at hV;obtain⟨_,rfl⟩:=trodVars_none hV;have aA:∀ x ∈ p,x.block < W.heap.size:=fun x hx=>hW'.lt x (by grind);refine⟨ds,[],p++[],[],p,[],hW',?_,?_,?_,World.keptBut_mono (fun x hx=>⟨hx,.inr (.inl (by grind))⟩) (hb.frame (· ∈ p++[])),fun h=>by grind⟩
 ·rw[CW,jd];exact trodAll_mk1 (shut_bool U6 true)
 ·grind[yf]
 ·rw[CW,Vt]
  rfl
end
theorem own:ownKnob Tryz.prog.godebug=none:=by kernel_rfl
noncomputable def zC (os:Os):World:=World.holding Tryz.prog os ⟨#[],#[],[]⟩
theorem ada {g:Gh}{w:World}{a b c:AV}{x y z:Value}(h:aF g w a x) (k:aF g w b y) (l:aF g w c z):jc g w [a,b,c] #[x,y,z]:=⟨rfl,fun i c z hc hz=>by grind⟩
end
section
set_option maxRecDepth 100000
attribute [local irreducible] ah aC af ad
end
section
set_option maxRecDepth 100000
attribute [local irreducible] ah aC af ad
def grT (ρ:Hd) (acc:List Tm):Ob:=.arr 4 (ρ.h (List.map lr) acc) 0 false
def vB (l:List At):List Tm:=l.flatMap (·.a)
def vC (l:List Gl):List Tm:=l.flatMap (·.a)
section
variable {w0:World}{ρ:Hd}
theorem IT (x:Tm):(lr x).all bO=true:=by rw[pv (ρ:=.plain)];rfl
theorem AY {B sz fz:Nat}{s:List Tm}{ex:Bool}:fR B (.arr sz (ρ.h (List.map lr) s) fz ex):=eO fun x _ a ha=>wO x a ha
end
end
section
set_option maxRecDepth 100000
attribute [local irreducible] ah aC af ad
end
section
set_option maxRecDepth 100000
attribute [local irreducible] ah aC af ad
end
section
set_option maxRecDepth 100000
attribute [local irreducible] ah aC af ad
structure rsm (r:Rl):Prop where
 h:r.aU.length+r.rem.length<=549755813888
 g:r.guard.length+r.body.length<=549755813888
 a:(vB (r.aU++r.rem)++vC (r.guard++r.body)).length<=549755813888
 k:eV (vB (r.aU++r.rem)++vC (r.guard++r.body))
 v:(cN (vB (r.aU++r.rem)++vC (r.guard++r.body))).length<=1099511627776
end
section
set_option maxRecDepth 100000
attribute [local irreducible] ah aC af ad
end
section
set_option maxRecDepth 100000
attribute [local irreducible] ah aC af ad
end
theorem P2 {a b:Int}(h:cH a b=0):a=0/\b=0:=by grind[cH]
theorem nG {T:Type}{f:T->Int}:∀ {l:List T},bG f l=0->∀ x ∈ l,f x=0
 |[],_,x,hx=>by grind
 |y::l,h,x,hx=>by
  rw[bG] at h;obtain⟨h1,h2⟩:=P2 h;rcases List.mem_cons.1 hx with rfl|hx
  ·grind
  ·exact nG h2 x hx
section
set_option maxRecDepth 100000
attribute [local irreducible] ah aC af ad
end
section
set_option maxRecDepth 100000
attribute [local irreducible] ah aC af ad
end
section
set_option maxRecDepth 100000
end
section
set_option maxRecDepth 100000
attribute [local irreducible] ah aC af ad
end
section
set_option maxRecDepth 100000
attribute [local irreducible] ah aC af ad
end
section
set_option maxRecDepth 100000
attribute [local irreducible] ah aC af ad
def Fi.ok (f:Fi):Prop:=f.ids.length<=1099511627776
end
section
set_option maxRecDepth 100000
attribute [local irreducible] ah aC af ad
end
section
set_option maxRecDepth 100000
attribute [local irreducible] ah aC af ad
end
section
set_option maxRecDepth 100000
attribute [local irreducible] ah aC af ad
end
section
set_option maxRecDepth 100000
attribute [local irreducible] ah aC af ad
end
section
set_option maxRecDepth 100000
attribute [local irreducible] ah aC af ad
end

theorem oR {α:Type}{μ:α->Nat}:∀ {l:List α}{x:α},x ∈ l->μ x<=eT μ l
 |y::l,x,h=>by
  rw[eT];rcases List.mem_cons.1 h with rfl|h
  ·omega
  ·have:=oR (μ:=μ) h;omega
theorem iU {α:Type}{μ:α->Nat}(h:∀ x,1<=μ x):∀ l:List α,l.length<=eT μ l
 |[]=>Nat.le_refl _
 |x::l=>by
  have h1:=h x;have h2:=iU h l;rw[eT,List.length_cons];omega
theorem tT {α:Type}{μ:α->Nat}:∀ a b:List α,eT μ (a++b)=eT μ a+eT μ b
 |[],b=>by rw[List.nil_append,eT];omega
 |x::a,b=>by rw[List.cons_append,eT,eT,tT a b];omega
theorem Z1 (x:Tm):5<=mT x:=by obtain⟨k,i,n,a⟩:=x;rw[mT];omega
theorem LO (l:List Tm):l.length<=qf l:=by rw[<-jt];exact iU (fun x=>by have:=Z1 x;omega) l
mutual
theorem adb:∀ (N:Nat) (x:Tm),N<=1099511627776->mT x<=N->x.ok
 |N,⟨k,i,n,a⟩,hN,h=>by
  rw[mT] at h;have:=LO a;rw[Tm.ok,HR];exact⟨by omega,by omega,DD N a hN (by omega)⟩
theorem DD:∀ (N:Nat) (l:List Tm),N<=1099511627776->qf l<=N->eV l
 |N,[],_,_=>by rw[eV];trivial
 |N,x::l,hN,h=>by
  rw[qf] at h;rw[eV];exact⟨adb N x hN (by omega),DD N l hN (by omega)⟩
end
mutual
theorem Xb:∀ x:Tm,dX x<=mT x
 |⟨k,i,n,a⟩=>by
  have:=qz a;rw[dX,mT];split<;>omega
theorem qz:∀ l:List Tm,bL l<=qf l
 |[]=>by rw[bL,qf];exact Nat.le_refl _
 |x::l=>by
  have:=Xb x;have:=qz l;rw[bL,qf];omega
end
theorem P3 {l:List Tm}(h:qf l<=1099511627776):vU l:=⟨DD _ l (Nat.le_refl _) h,Nat.le_trans (qz l) h⟩
theorem P4 {x:Gl}(h:tj x<=1099511627776):ZA x:=by
 unfold tj at h;exact⟨P3 (by omega),by omega⟩
theorem AZ (x:At):1<=pw x:=by unfold pw;omega
theorem A0 (x:Gl):1<=tj x:=by unfold tj;omega
theorem P5:∀ l:List At,qf (vB l)<=eT pw l
 |[]=>Nat.le_refl _
 |x::l=>by
  have h:=P5 l;rw[show vB (x::l)=x.a++vB l from rfl,<-jt,tT,jt,jt,eT,pw];omega
theorem P6:∀ l:List Gl,qf (vC l)<=eT tj l
 |[]=>Nat.le_refl _
 |x::l=>by
  have h:=P6 l;rw[show vC (x::l)=x.a++vC l from rfl,<-jt,tT,jt,jt,eT,tj];omega
theorem Np:∀ l:List At,(BC l).length<=eT pw l
 |[]=>Nat.le_refl _
 |x::l=>by
  have h:=Np l;have h1:=Dm x.a;have h2:=qz x.a;rw[show BC (x::l)=varsOf x.a++BC l from rfl,List.length_append,eT,pw];omega
theorem Nq:∀ l:List Gl,(BD l).length<=eT tj l
 |[]=>Nat.le_refl _
 |x::l=>by
  have h:=Nq l;have h1:=Dm x.a;have h2:=qz x.a;rw[show BD (x::l)=varsOf x.a++BD l from rfl,List.length_append,eT,tj];omega
theorem Z2 {r:Rl}(h:xY r<=1048576):BF r:=by
 have a1:=iU AZ r.aU;have a2:=iU AZ r.rem;have a3:=iU A0 r.guard;have a4:=iU A0 r.body;have b1:=Np r.aU;have b2:=Np r.rem;have b3:=Nq r.guard;have b4:=Nq r.body;unfold xY at h;have at_:∀ x:At,pw x<=1048576->vU x.a/\x.n.size<=1099511627776:=fun x hx=>by
  unfold pw at hx;exact⟨P3 (by omega),by omega⟩
 refine⟨by omega,by omega,by omega,by omega,by omega,fun x hx=>at_ x ?_,fun x hx=>at_ x ?_,fun x hx=>P4 ?_,fun x hx=>P4 ?_,?_,?_⟩
 ·have:=oR (μ:=pw) hx;omega
 ·have:=oR (μ:=pw) hx;omega
 ·have:=oR (μ:=tj) hx;omega
 ·have:=oR (μ:=tj) hx;omega
 ·rw[yd,show F_ [r.aU,r.rem]=BC r.aU++(BC r.rem++[]) from rfl,List.append_nil,List.length_append];omega
 ·rw[Dx,show r9 [r.guard,r.body]=BD r.guard++(BD r.body++[]) from rfl,List.append_nil,List.length_append];omega
theorem Z3 {r:Rl}(h:xY r<=1048576):rsm r:=by
 have a1:=iU AZ r.aU;have a2:=iU AZ r.rem;have a3:=iU A0 r.guard;have a4:=iU A0 r.body;unfold xY at h;have k1:=P5 (r.aU++r.rem);have k2:=P6 (r.guard++r.body);rw[tT] at k1 k2;have k3:qf (vB (r.aU++r.rem)++vC (r.guard++r.body))<=1048576:=by
  rw[<-jt,tT,jt,jt];omega
 have k4:=LO (vB (r.aU++r.rem)++vC (r.guard++r.body));have k5:=qP (vB (r.aU++r.rem)++vC (r.guard++r.body));have k6:=qz (vB (r.aU++r.rem)++vC (r.guard++r.body));exact⟨by omega,by omega,by omega,DD _ _ (Nat.le_refl _) (by omega),by omega⟩
theorem Z4 {p:Pg}(h:O7 p<=1048576):DB p/\∀ r ∈ p.rs,rsm r:=by
 have a1:=iU (μ:=Fy) (fun x=>by unfold Fy;omega) p.ds;have a2:=iU (μ:=xY) (fun x=>by unfold xY;omega) p.rs;unfold O7 at h;have hr:∀ r ∈ p.rs,xY r<=1048576:=fun r hr=>by
  have:=oR (μ:=xY) hr;omega
 refine⟨⟨by omega,by omega,fun d hd=>?_,fun r h=>Z2 (hr r h)⟩,fun r h=>Z3 (hr r h)⟩;have:=oR (μ:=Fy) hd;unfold Fy at this a1 h;omega
section
variable {P:Program}{w0:World}{α:AA}{S:ae}{dr rd:Bool}{n:Nat}{Q:Exit->AA->ae->Prop}{l:List QI}{K:List ff}{ρ:Hd}{T:Type}{f:T->List AV}{dd:Option Nat}{gg:Option (Nat × Bool)}
theorem fN {met:List T}{i:Nat}{x:T}(h:met[i]?=some x):(ρ.h (List.map f) met)[i]?=some (f x):=by rw[ρ.eq,List.getElem?_map,h];rfl
theorem ad.UO {by_:Nat}{a b:QO}{i:Int}{m:Nat}{sz:Nat}(ρ:Hd) (f:T->List AV) (x0:T) (hw:bm α.tm gg=some true) (h1:a.ev α.tm=.v (.int .i64 i)) (h2:b.ev α.tm=.v (.int .i64 i)) (hi:i=m) (hs:(f x0).length=sz) (hy:m*by_<=35184372088832) (h6:m<=9223372036854775807)
  (kk:∀ met,met=List.replicate m x0->ad P w0 rd n Q (.aN dr l K) (bC dd α (.ob S.nx sz 0 m none)) (S.new (.arr sz (ρ.h (List.map f) met) 0 true))):ad P w0 rd n Q (.aN dr (⟨dd,gg,.iI (f x0) by_ a b⟩::l) K) α S:=by
 have h:=kk _ rfl;rw[ρ.eq,List.map_replicate] at h;subst hs hi;exact ad.op (i:=⟨dd,gg,.iI (f x0) by_ a b⟩) hw (by simpa using af.UO (P:=P) (w0:=w0) (dr:=dr) (z:=f x0) (by_:=by_) (S:=S) h1 h2 (by omega) rfl (by omega) (by omega)) h
theorem af.ahA {m p:Nat}{x i:QO}{k off len:Nat}{cx:Option Nat}{ik:IntKind}{j:Int}(h1:x.ev α.tm=.ob k m off len cx) (h2:i.ev α.tm=.v (.int ik j)) (hp:j=p) (h4:p < len):af P w0 dr (.ox m x i) α S (.pt k m (off+p) 0) S:=by
 subst hp;exact af.X6 h1 h2 (by omega) (by omega)
theorem af.pP {k:LK}{x:QO}{b sz i j fz:Nat}{ex:Bool}{rows:List (List AV)}{row:List AV}{a:AV}(hx:x.ev α.tm=.pt b sz i j) (hk:S.get b=some (.arr sz rows fz ex)) (hi:rows[i]?=some row) (ha:pD k row j=some a):af P w0 dr (.load k x) α S a S :=
 af.quiet (by simp only[ja,hx,mc,hk,Nat.beq_refl,hi,ha])
theorem af.Z5 {n:Nat}{x b:QO}{k sz i j:Nat}{ex:Bool}{rows:List (List AV)}{row:List AV}(hx:x.ev α.tm=.pt k sz i j) (hk:S.get k=some (.arr sz rows 0 ex)) (hc:(aL (b.ev α.tm)).all bO=true) (hn:n=(aL (b.ev α.tm)).length) (hi:rows[i]?=some row)
  (hj:j+(aL (b.ev α.tm)).length<=row.length):af P w0 dr (.store n x b) α S (.v undef) (S.set k (some (.arr sz (rows.set i (mF row j (aL (b.ev α.tm)))) 0 ex))):=by
 refine af.of rfl fun o hr=>?_;cases o<;>simp only[res,dS] at hr<;>(repeat' split at hr)<;>(try cases hr)
 rename_i hs;rw[aI] at hx hc hn hj ⊢;simp only[a8,hx];refine bc.mk (a:=_) ?_ ⟨rfl,rfl⟩;simp only[ml,hk,hs,hc,hn,Nat.beq_refl,Bool.and_self,hi,Nat.ble_eq_true_of_le hj]
theorem ad.IU {m:Nat}{x b:QO}{k i:Nat}{ex:Bool}{met:List T}{y:T}{sz:Nat}(hw:bm α.tm gg=some true) (hx:x.ev α.tm=.pt k sz i 0) (hk:S.get k=some (.arr sz (ρ.h (List.map f) met) 0 ex)) (hb:aL (b.ev α.tm)=f y) (hc:(f y).all bO=true) (hl:∀ x,(f x).length=sz) (hm:m=sz) (hi:i < met.length)
  (kk:∀ IV,IV=met.set i y->ad P w0 rd n Q (.aN dr l K) (bC dd α (.v undef)) (S.set k (some (.arr sz (ρ.h (List.map f) IV) 0 ex)))):ad P w0 rd n Q (.aN dr (⟨dd,gg,.store m x b⟩::l) K) α S:=by
 have h:=kk _ rfl;have DF:(ρ.h (List.map f) met)[i]?=some (f met[i]):=fN (List.getElem?_eq_getElem hi);have e:(ρ.h (List.map f) met).set i (mF (f met[i]) 0 (aL (b.ev α.tm)))=ρ.h (List.map f) (met.set i y):=by
  rw[hb,ρ.eq,ρ.eq,List.map_set];congr 1;unfold mF;rw[hl,hl,Nat.beq_refl]
  rfl
 rw[<-e] at h;exact ad.op (i:=⟨dd,gg,.store m x b⟩) hw (af.Z5 hx hk (by grind) (by grind) DF (by grind)) h
end
def xp (env:List Bd) (v:Int):Option Tm:=(env.find? fun b=>b.v == v).map (·.t)
theorem mq (t:Tm):dk t=1+bP t.a:=by obtain⟨k,i,n,a⟩:=t;rw[dk];simp only;omega
mutual
def BI:Tm->Prop
 |⟨k,i,n,a⟩=>(k=1->0<=i/\i<=1099511627776)/\rN a
def rN:List Tm->Prop
 |[]=>True
 |x::l=>BI x/\rN l
end
mutual
def iV (b:List Bd):Tm->Tm
 |⟨k,i,n,a⟩=>if k=1 then (match xp b i with|some u=>u|none=>⟨k,i,n,a⟩) else if k=2 then ⟨k,i,n,pQ b a⟩ else ⟨k,i,n,a⟩
def pQ (b:List Bd):List Tm->List Tm
 |[]=>[]
 |x::l=>iV b x::pQ b l
end
theorem o4 (b:List Bd):∀ l,pQ b l=l.map (iV b)
 |[]=>by rw[pQ];rfl
 |x::l=>by rw[pQ,o4 b l];rfl
def lT (b:List Bd) (g:Gl):Gl:=⟨g.op,g.n,g.a.map (iV b)⟩
section
set_option maxRecDepth 100000
attribute [local irreducible] ah aC af ad
end
section
set_option maxRecDepth 100000
end
def gD (n:Int):Bool:=decide (-2147483648<=n) && decide (n<=2147483648)
def P7 (n:ByteArray) (a b:Int):Int × Int :=
 if n.toList=[43] then (a+b,0) else if n.toList=[45] then (a - b,0) else if n.toList=[42] then (a*b,0) else
 if b=0 then (0,12) else if n.toList=[47] then (a.fdiv b,0) else (a - a.fdiv b*b,0)
def Vu (n:ByteArray) (a b:Int):Int × Int:=if !(gD a && gD b) then (0,5) else
 if (P7 n a b).2=0 then (if gD (P7 n a b).1 then ((P7 n a b).1,0) else (0,5)) else (0,(P7 n a b).2)
mutual
def pR:Tm->Int × Int
 |⟨k,i,n,a⟩=>if k=1 then (0,17) else if k=0 then (if gD i then (i,0) else (0,5)) else
  if k=2/\a.length=2/\eL n=true then Z6 n a else (0,11)
def Z6 (n:ByteArray):List Tm->Int × Int
 |[]=>(0,11)
 |x::l=>match l with
  |[]=>(0,11)
  |y::_=>match pR x with
   |(p,e)=>if e=0 then (match pR y with|(q,f)=>if f=0 then Vu n p q else (0,f)) else (0,e)
end
mutual
def qA:Tm->Bool
 |⟨k,i,n,a⟩=>if k=0\/k=1 then true else decide (k=2) && (eL n && (decide (a.length=2) && Nr a))
def Nr:List Tm->Bool
 |[]=>true
 |x::l=>qA x && Nr l
end
def tU (t:Tm):Bool:=(varsOf [t]).isEmpty
def Tc (op x y:Int):Bool:=if op=7 then decide (x < y) else if op=8 then decide (x<=y) else if op=9 then decide (x=y) else decide (x ≠ y)
def pS (b:Bool):Int:=if b then 1 else 2
def A1 (op:Int) (a b:Tm):Int:=if !qA a || !qA b then 2 else if !tU a || !tU b then 0 else
 if (pR a).2=0/\(pR b).2=0 then pS (Tc op (pR a).1 (pR b).1) else 2
def qQ (g:Gl):Bool:=sN g.op && ft g
noncomputable def Z7 (a b:Tm):Bool:=decide ((lX lz [(a,b)]).2=0\/(lX lz [(a,b)]).2=6)
noncomputable def Td (op:Int):List Tm->Int
 |[]=>0
 |a::l=>if op=11 then (if a.k=1 then 0 else pS (decide (a.k=0))) else if op=12 then (if tU a then 1 else 0) else match l with
  |[]=>0
  |b::_=>if op=5\/op=6 then (if wU a b=0 then pS (decide (op=5)) else if Z7 a b then 0 else pS (decide (op=6))) else A1 op a b
noncomputable def qB (g:Gl):Int:=if qQ g then Td g.op g.a else pS (decide (g.op=1) && ft g)

section
set_option maxRecDepth 100000
attribute [local irreducible] ah aC af ad
def ade:FQ 234 Tryz.f234:=a_ Tryz.func234 Tryz.call234
def tV:List Nat:=[8,0,5,4,7,9,1,16]
def adf:FQ 193 Tryz.f193:=a_ Tryz.func193 Tryz.call193
def Te:List Nat:=[4,0,1]
def adg:FQ 194 Tryz.f194:=a_ Tryz.func194 Tryz.call194
def Z8:List Nat:=[2,0,1]
def adh:FQ 134 Tryz.f134:=a_ Tryz.func134 Tryz.call134
def Z9:List Nat:=[2,0]
section
variable {w0:World}{ρ:Hd}
theorem Z_ (p:Tm->Bool) (l:List Tm) (gid:FuncId) (fs cs:List AV) (hl:l.length<=1099511627776) (hF:Pure (.fn (.func gid) fs cs)) (h:∀ x ∈ l,FR Tryz.prog w0 (.fn (.func gid) fs cs) [tm ρ x] (p x)):ah Tryz.prog w0 234 [tl ρ l,.fn (.func gid) fs cs] (iv (du p l 0)):=by
 obtain⟨R,hR⟩:∃ R,R=du p l 0:=⟨_,rfl⟩;rw[<-hR];refine st ade tV .v ?_
 repeat' (first
  |refine lg tV fun m hm=>?_
  )
 refine ad.bu (σ:=Int) 0 0 [] (fun i=>[(0,tl ρ l),(1,.fn (.func gid) fs cs),(7,.v (.int .i64 m)),(8,.v (.int .i64 i))]) [] (fun _=>[])
  (fun i=>∃ k:Nat,i=k/\k<=l.length/\R=du p (l.drop k) k) (fun i=>l.length - i.toNat) 0 ⟨0,rfl,by simp,by grind⟩ rfl ⟨⟨.ao rfl (Pure.aV (aS _)),.ao rfl (Pure.aV hF),.ao rfl .v,.ao rfl .v,trivial⟩,rfl,trivial,rfl,rfl,rfl⟩ ?_
 rintro i ⟨k,hi,hk,hp⟩;clear hR;refine gq tV ?_;by_cases aA:k < l.length
 ·obtain⟨x,hx,bK⟩:=bf aA;rw[bK,du] at hp;have hf:=h x (eU hx)
  repeat' (first
   |refine og tV (af.ind rfl rfl (fm (l:=l) hi hx) fp) ?_
   |refine bg tV (af.Ze rfl rfl hf) (fun _=>?_) fun _=>?_
   |refine cg tV (fun hb=>?_) fun hb=>?_
   |refine ag tV fun _ _=>?_
   |refine ad.aH ?_;refine gq tV ?_
   |refine ad.cP ?_;refine gq tV ?_
   |(refine fq ?_))
  all_goals first
   |rw[if_pos (by grind)] at hp;refine jD ?_;omega
   |(rw[if_neg (by grind)] at hp
     refine ad.aO (σ:=Int) _ [] ?_ ?_ ⟨⟨.ao rfl (Pure.aV (aS _)),.ao rfl (Pure.aV hF),.ao rfl .v,.ao rfl .v,trivial⟩,rfl,trivial,rfl,rfl,rfl⟩
     ·grind
     ·omega)
   |exfalso;omega
 ·skip
  repeat' (first
   |refine cg tV (fun hb=>?_) fun hb=>?_
   |refine ad.aH ?_;refine gq tV ?_
   |(refine fq ?_))
  all_goals first
   |exfalso;omega
   |rw[hp,List.drop_eq_nil_of_le (by omega)];exact jD rfl
theorem aaa (p:Tm->Bool) (l:List Tm) (gid:FuncId) (fs cs:List AV) (hl:l.length<=1099511627776) (hF:Pure (.fn (.func gid) fs cs)) (h:∀ x ∈ l,FR Tryz.prog w0 (.fn (.func gid) fs cs) [tm ρ x] (p x)):ah Tryz.prog w0 193 [tl ρ l,.fn (.func gid) fs cs] (.v (.bool (l.any p))):=by
 have hI:=Z_ (w0:=w0) (ρ:=ρ) p l gid fs cs hl hF h;have qx:=tB p l 0;obtain⟨j,hj⟩:∃ j,j=du p l 0:=⟨_,rfl⟩;rw[<-hj] at hI qx;refine st adf Te .v ?_
 repeat' (first
  |refine ig Te (af.aw rfl hI ⟨aS _,hF,trivial⟩) fun _ _=>?_
  |refine cg Te (fun hb=>?_) fun hb=>?_
  |(refine fq ?_))
 all_goals (subst_vars;refine eA ?_;rw[<-qx];simp_all)
theorem aab {f:FuncId}:Wk (.v (.func (.func f) #[] #[])) (.fn (.func f) [] []):=fun g w x hr=>by
 obtain rfl:=bI hr;exact .fn rfl rfl (fun i a y h=>by grind) (fun i a y h=>by grind)
theorem P8 (x:Tm) (hx:x.ok):ah Tryz.prog w0 194 [tm ρ x] (.v (.bool (!(dO x)))):=by
 have h:=WT (w0:=w0) (ρ:=ρ) x hx;obtain⟨R,hR⟩:∃ R,R=dO x:=⟨_,rfl⟩;rw[<-hR] at h ⊢;refine st adg Z8 .v ?_
 repeat' (first
  |refine bg Z8 (af.aw rfl h ⟨aT x,trivial⟩) (fun _=>?_) fun _=>?_
  |(refine fq ?_))
 all_goals (refine eA ?_;simp_all)
theorem Xc (x:Tm) (hx:x.ok):FR Tryz.prog w0 (.fn (.func 194) [] []) [tm ρ x] (!(dO x)):=⟨_,_,rfl,⟨aT x,trivial⟩,P8 x hx⟩
theorem IW (l:List Tm) (hl:l.length<=1099511627776) (jA:∀ x ∈ l,x.ok):ah Tryz.prog w0 134 [tl ρ l] (.v (.bool (!(l.any fun x=>!(dO x))))):=by
 obtain⟨R,hR⟩:∃ R,R=(l.any fun x=>!(dO x)):=⟨_,rfl⟩;have hc:=aaa (w0:=w0) (ρ:=ρ) (fun x=>!(dO x)) l 194 [] [] hl (.fn (fun a h=>by grind) (fun a h=>by grind)) (fun x hx=>Xc x (jA x hx));rw[<-hR] at hc ⊢;refine st adh Z9 .v ?_
 repeat' (first
  |refine bg Z9 (af.pd rfl hc ⟨aS _,.fn (fun a h=>by grind) (fun a h=>by grind),trivial⟩ ⟨.refl _,aab,trivial⟩) (fun _=>?_) fun _=>?_
  |(refine fq ?_))
 all_goals (refine eA ?_;simp_all)
end
end
mutual
def E1:Tm->Prop
 |⟨k,i,n,a⟩=>(k=1->0<=i)/\qR a
def qR:List Tm->Prop
 |[]=>True
 |x::l=>E1 x/\qR l
end
theorem IX {n:ByteArray}{a:List Tm}(h:vu n a=true):n=⟨#[]⟩/\a=[]:=by
 unfold vu at h;rw[Bool.and_eq_true] at h;exact⟨O_.1 (eq_of_beq h.1),List.isEmpty_iff.1 h.2⟩
mutual
theorem IY:∀ x:Tm,oB x=true->x.ok->eE x/\kz x/\E1 x/\BI x/\dk x=dX x
 |⟨k,i,n,a⟩,h,ho=>by
  rw[oB] at h;rw[Tm.ok] at ho;rw[eE,kz,E1,BI,dk,dX];by_cases h0:k=0
  ·rw[if_pos h0] at h;simp only[Bool.and_eq_true,decide_eq_true_eq] at h;obtain⟨rfl,rfl⟩:=IX h.2;rw[if_neg (by omega),if_neg (by omega)];exact⟨⟨by rw[fE];trivial,.inr rfl⟩,⟨by simp,ho.2.1,by rw[jg];trivial⟩,⟨by omega,by rw[qR];trivial⟩,⟨by omega,by rw[rN];trivial⟩,by rw[bP]⟩
  ·rw[if_neg h0] at h;by_cases h1:k=1
   ·rw[if_pos h1] at h;simp only[Bool.and_eq_true,decide_eq_true_eq] at h;obtain⟨rfl,rfl⟩:=IX h.2;rw[if_pos h1,if_neg (by omega)];exact⟨⟨rfl,rfl⟩,⟨by simp,ho.2.1,by rw[jg];trivial⟩,⟨fun _=>h.1.1,by rw[qR];trivial⟩,⟨fun _=>⟨h.1.1,by omega⟩,by rw[rN];trivial⟩,by rw[bP]⟩
   ·rw[if_neg h1] at h;split at h
    ·rename_i h2;simp only[Bool.and_eq_true,Bool.or_eq_true,beq_iff_eq,decide_eq_true_eq] at h;obtain⟨p1,p2,p3,p4,p5⟩:=zD a h.2 ho.2.2;rw[if_neg h1,if_pos h2];refine⟨⟨p1,.inl h2⟩,⟨?_,ho.2.1,p2⟩,⟨fun e=>absurd e h1,p3⟩,⟨fun e=>absurd e h1,p4⟩,by omega⟩;rcases h.1.2 with h3|h3<;>omega
    ·grind
theorem zD:∀ l:List Tm,kX l=true->eV l->fE l/\jg l/\qR l/\rN l/\bP l=bL l
 |[],_,_=>⟨by rw[fE];trivial,by rw[jg];trivial,by rw[qR];trivial,by rw[rN];trivial,by rw[bP,bL]⟩
 |x::l,h,ho=>by
  rw[kX,Bool.and_eq_true] at h;rw[eV] at ho;obtain⟨a1,a2,a3,a4,a5⟩:=IY x h.1 ho.1;obtain⟨b1,b2,b3,b4,b5⟩:=zD l h.2 ho.2;exact⟨by grind[fE],by grind[jg],by grind[qR],by grind[rN],by rw[bP,bL,a5,b5]⟩
end
theorem uX {x:Tm}(h:dO x=true) (ho:x.ok):eE x/\kz x/\E1 x/\BI x/\dk x<=200:=by grind[dO,IY]
theorem P9 {l:List Tm}(h:l.all dO=true):kX l=true:=by
 induction l with
 |nil=>rw[kX]
 |cons x l ih =>
  rw[List.all_cons,Bool.and_eq_true] at h;rw[kX,Bool.and_eq_true];refine⟨?_,ih h.2⟩;have:=h.1;unfold dO at this;simp only[Bool.and_eq_true] at this;exact this.1.1
theorem DG {l:List Tm}(h:qv l=true) (ho:eV l):fE l/\jg l/\qR l/\rN l/\bP l<=200:=by grind[qv,zD,P9]
end Go.Proofs.YtbpabjmnhggajaaGreat
