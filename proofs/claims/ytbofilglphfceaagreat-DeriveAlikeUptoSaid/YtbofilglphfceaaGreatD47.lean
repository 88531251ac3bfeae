import Derived.Test.YtbofilglphfceaaGreatD46
namespace Go.Proofs.YtbofilglphfceaaGreat
set_option linter.unusedVariables false
set_option linter.unusedSimpArgs false
open Go.RowKit
section
set_option maxRecDepth 100000
mutual
def x9:Tm->Tm
 |⟨k,i,n,a⟩=>if k=1\/k=0 then ⟨k,i,⟨#[]⟩,[]⟩ else if k=2 then ⟨2,0,n,jt a⟩ else ⟨k,i,n,[]⟩
def jt:List Tm->List Tm
 |[]=>[]
 |x::l=>x9 x::jt l
end
theorem lU:∀ l,jt l=l.map x9
 |[]=>by rw [jt];rfl
 |x::l=>by rw [jt,lU l];rfl
theorem ju {a b:Int}:cL a b=0 ↔ a=b:=by
 unfold cL
 split
 ·omega
 ·split<;>omega
theorem e8 {a b:Int}:bL a b=0 ↔ a=0/\b=0:=by
 unfold bL
 split<;>simp_all
theorem Hw {a b:ByteArray}:a.toList=b.toList ↔ a=b:=⟨fun h=>by rw [ByteArray.toList_eq,ByteArray.toList_eq] at h;cases a;cases b;simp only [ByteArray.mk.injEq];exact Array.toList_inj.1 h,fun h=>h ▸ rfl⟩
theorem pa {a b:ByteArray}:lF a b=0 ↔ a=b:=by
 rw [<-Hw]
 unfold lF
 refine⟨fun h=>?_,fun h=>by rw [h,qU];simp⟩
 split at h
 ·cases h
 ·split at h
  ·rename_i h1 h2
   simp only [Bool.or_eq_true,beq_iff_eq] at h2
   exact h2.resolve_left h1
  ·cases h
theorem Fm {k k':Int}:bK k=bK k' ↔ k=k'\/(bK k=3/\bK k'=3):=by
 unfold bK
 split<;>split<;>(try split)<;>(try split)<;>(try split)<;>(try split)<;>omega
mutual
theorem ta:∀ x y:Tm,c_ x y=0 ↔ x9 x=x9 y
 |⟨k,i,n,a⟩,⟨k',i',n',a'⟩=>by
  have ih:=nL a a'
  have hr:∀ k,bK k=0 ↔ k=1:=fun k=>by unfold bK;split;simp_all;split;simp_all;split<;>simp_all
  have GN:∀ k,bK k=1 ↔ k=0:=fun k=>by unfold bK;split;simp_all;split;simp_all;split<;>simp_all
  have GO:∀ k,bK k=2 ↔ k=2:=fun k=>by unfold bK;split;simp_all;split;simp_all;split<;>simp_all
  rw [c_,x9,x9,e8,ju,Fm]
  simp only [hr,GN,GO]
  by_cases h1:k=1\/k=0
  ·rw [if_pos h1,if_pos h1,ju]
   by_cases h2:k'=1\/k'=0
   ·rw [if_pos h2]
    simp only [Tm.mk.injEq,and_true]
    have:bK k ≠ 3:=fun h=>by rcases h1 with rfl|rfl<;>cases h
    simp [this]
   ·have h3:k ≠ k':=fun e=>h2 (e ▸ h1)
    have:bK k ≠ 3:=fun h=>by rcases h1 with rfl|rfl<;>cases h
    rw [if_neg h2]
    split<;>simp [h3,this]<;>omega
  ·rw [if_neg h1,if_neg h1]
   by_cases h2:k=2
   ·subst h2
    have h3:bK 2 ≠ 3:=by decide
    rw [if_pos rfl,if_pos rfl]
    simp only [e8,ju,pa,ih,h3,false_and,or_false]
    by_cases h4:k'=1\/k'=0
    ·rw [if_pos h4];simp;omega
    ·rw [if_neg h4]
     by_cases h5:k'=2
     ·subst h5
      rw [if_pos rfl]
      simp only [Tm.mk.injEq,true_and]
      refine⟨fun h=>⟨h.2.1,h.2.2⟩,fun h=>⟨?_,h.1,h.2⟩⟩
      have:=congrArg List.length h.2
      rw [lU,lU,List.length_map,List.length_map] at this
      omega
     ·rw [if_neg h5];simp;omega
   ·rw [if_neg h2,if_neg h2]
    simp only [e8,ju,pa]
    have h3:bK k=3:=by unfold bK;rw [if_neg (by omega),if_neg (by omega),if_neg h2]
    by_cases h4:k'=1\/k'=0
    ·rw [if_pos h4];simp;omega
    ·rw [if_neg h4]
     by_cases h5:k'=2
     ·subst h5;rw [if_pos rfl];simp;omega
     ·rw [if_neg h5]
      have h6:bK k'=3:=by unfold bK;rw [if_neg (by omega),if_neg (by omega),if_neg h5]
      simp [h3,h6]
theorem nL:∀ l m:List Tm,cG l m=0 ↔ jt l=jt m
 |[],[]=>by rw [cG];simp [cL]
 |[],y::m=>by rw [cG,jt,jt,ju];simp;omega
 |x::l,[]=>by rw [cG,jt,jt];simp
 |x::l,y::m=>by rw [cG,jt,jt,e8,ta x y,nL l m];simp
end
def KL (x:Gl):Gl:=⟨x.op,x.n,jt x.a⟩
theorem e9 {x y:Gl}:aI x y=true ↔ KL x=KL y:=by
 unfold aI KL
 simp only [Bool.and_eq_true,beq_iff_eq,decide_eq_true_eq,Hw,nL,Gl.mk.injEq,and_assoc]
 refine⟨fun h=>⟨h.1,h.2.1,h.2.2.2⟩,fun h=>⟨h.1,h.2.1,?_,h.2.2⟩⟩
 have:=congrArg List.length h.2.2
 rw [lU,lU,List.length_map,List.length_map] at this
 omega
def jG:List Gl->List Gl->Bool
 |[],_=>true
 |g::a,b=>b.any (aI g) && jG a (b.eraseP (aI g))
theorem ky {p q:Gl->Bool}{c:Bool}:∀ {b:List Gl},b.any q=true->(∀ x,q x=true->p x=c)->b.countP p=(b.eraseP q).countP p+c.toNat
 |[],h,_=>by cases h
 |x::b,h,hc=>by
  cases hx:q x with
  |true =>
   rw [List.eraseP_cons_of_pos hx,List.countP_cons,hc x hx]
   cases c<;>rfl
  |false =>
   rw [List.any_cons,hx,Bool.false_or] at h
   rw [List.eraseP_cons_of_neg (by rw [hx];simp),List.countP_cons,List.countP_cons,ky h hc]
   omega
theorem nM (x y:Gl):aI x y=aI y x:=by rw [Bool.eq_iff_iff,e9,e9];exact eq_comm
theorem j4 {x y:Gl}(h:Gl) (e:aI x y=true):aI h y=aI h x:=by rw [Bool.eq_iff_iff,e9,e9,e9.1 e]
theorem m3:∀ (a b:List Gl),jG a b=true ↔ ∀ g ∈ a,a.countP (aI g)<=b.countP (aI g)
 |[],b=>by simp [jG]
 |g::a,b=>by
  rw [jG,Bool.and_eq_true,m3 a]
  have hg:aI g g=true:=e9.2 rfl
  refine⟨fun ⟨h1,h2⟩ h hh=>?_,fun h=>?_⟩
  ·have key:∀ h ∈ a,(g::a).countP (aI h)<=b.countP (aI h):=fun h hh=>by
    rw [ky (p:=aI h) h1 fun x hx=>j4 h hx,List.countP_cons]
    have:=h2 h hh
    cases aI h g<;>simp<;>omega
   rcases List.mem_cons.1 hh with rfl|hh
   ·rw [ky (p:=aI h) h1 fun x hx=>j4 h hx,List.countP_cons,hg]
    by_cases h0:a.countP (aI h)=0
    ·rw [h0];simp
    ·obtain⟨y,hy,dL⟩:=List.countP_pos_iff.1 (Nat.pos_of_ne_zero h0)
     have e:∀ z,aI y z=aI h z:=fun z=>by rw [Bool.eq_iff_iff,e9,e9,e9.1 dL]
     have e:aI y=aI h:=funext e
     have:=h2 y hy
     rw [e] at this
     simp
     omega
   ·exact key h hh
  ·have h1:b.any (aI g)=true:=by
    have:=h g (List.mem_cons_self)
    rw [List.countP_cons,hg] at this
    obtain⟨y,hy,dL⟩:=List.countP_pos_iff.1 (show 0 < b.countP (aI g) by simp at this;omega)
    exact List.any_eq_true.2 ⟨y,hy,dL⟩
   refine⟨h1,fun y hy=>?_⟩
   have:=h y (List.mem_cons_of_mem _ hy)
   rw [ky (p:=aI y) h1 fun x hx=>j4 y hx,List.countP_cons] at this
   cases hc:aI y g<;>rw [hc] at this<;>simp at this<;>omega
theorem tc {a b:List Gl}(hl:a.length=b.length) (h:jG a b=true):∀ g,a.countP (aI g)=b.countP (aI g):=by
 induction a generalizing b with
 |nil=>intro g;cases b with
  |nil=>rfl
  |cons=>cases hl
 |cons x a ih =>
  rw [jG,Bool.and_eq_true] at h
  intro g
  obtain⟨y,hy,dL⟩:=List.any_eq_true.1 h.1
  have:=ih (b:=b.eraseP (aI x)) (by rw [List.length_eraseP_of_mem hy dL,<-hl];simp) h.2 g
  rw [ky (p:=aI g) h.1 fun z hz=>j4 g hz,List.countP_cons,this]
  cases aI g x<;>simp
def BP (a b:List Gl):Bool:=a.all fun g=>decide (a.countP (aI g)=b.countP (aI g))
theorem Ib {a b:List Gl}(hl:a.length=b.length):jG a b=BP a b:=by
 rw [Bool.eq_iff_iff]
 unfold BP
 simp only [List.all_eq_true,decide_eq_true_eq]
 exact⟨fun h g _=>tc hl h g,fun h=>(m3 a b).2 fun g hg=>Nat.le_of_eq (h g hg)⟩
theorem Fo {a b:List Gl}(hl:a.length=b.length):jG a b=jG b a:=by
 rw [Bool.eq_iff_iff]
 exact⟨fun h=>(m3 b a).2 fun g _=>Nat.le_of_eq (tc hl h g).symm,fun h=>(m3 a b).2 fun g _=>Nat.le_of_eq (tc hl.symm h g).symm⟩
theorem Ic {a b c:List Gl}(h:a=b++c):jG a (c++b)=true:=by
 subst h
 exact (m3 _ _).2 fun g _=>by rw [List.countP_append,List.countP_append];omega
end
end Go.Proofs.YtbofilglphfceaaGreat
