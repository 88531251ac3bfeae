import Derived.Test.YtbpabjmnhggajaaGreatOs49
namespace Go.Proofs.YtbpabjmnhggajaaGreat
set_option linter.unusedVariables false
set_option linter.unusedSimpArgs false
open Go.RowKit
def Kg (a b:At):Bool:=decide (a.n.toList=b.n.toList) && decide (a.a.length=b.a.length)
def sw (f:At) (G:List Int->List (List Int)) (l:List Int):List At->Nat->List (List Int)
 |[],_=>[]
 |h::t,k=>(if Kg f h && !l.contains (k:Int) then G (l++[(k:Int)]) else [])++sw f G l t (k+1)
def kK (T:List At):List At->List Int->List (List Int)
 |[],l=>[l]
 |f::fs,l=>kK T fs (l++[-1])++sw f (kK T fs) l T 0
def wE (T:List At) (l:List Int):Prop:=(∀ m ∈ l,m=-1\/∃ q:Nat,m=q/\q < T.length)/\(l.filter fun m=>m != -1).Nodup
theorem Mg {f:At}{G:List Int->List (List Int)}{l x:List Int}:∀ {t:List At}{k:Nat},x ∈ sw f G l t k->∃ q:Nat,k<=q/\q < k+t.length/\(q:Int) ∉ l/\x ∈ G (l++[(q:Int)])
 |[],k,h=>by simp[sw] at h
 |b::t,k,h=>by
  rw[sw,List.mem_append] at h;rcases h with h|h
  ·grind
  ·obtain⟨q,h1,h2,h3,h4⟩:=Mg h;exact⟨q,by omega,by grind,h3,h4⟩
theorem Uh {T:List At}{l:List Int}(h:wE T l):wE T (l++[-1]):=by
 refine⟨fun m hm=>?_,?_⟩
 ·rcases List.mem_append.1 hm with hm|hm
  ·exact h.1 m hm
  ·grind
 ·rw[List.filter_append];simpa using h.2
theorem XL {T:List At}{l:List Int}{q:Nat}(h:wE T l) (hq:q < T.length) (hn:(q:Int) ∉ l):wE T (l++[(q:Int)]):=by
 refine⟨fun m hm=>?_,?_⟩
 ·rcases List.mem_append.1 hm with hm|hm
  ·exact h.1 m hm
  ·grind
 ·rw[List.filter_append,List.nodup_append];refine⟨h.2,?_,fun a ha b hb e=>?_⟩
  ·grind
  ·grind
theorem A9 {T:List At}:∀ (fs:List At) (l x:List Int),wE T l->x ∈ kK T fs l->wE T x/\x.length=l.length+fs.length
 |[],l,x,h,hx=>by grind[kK]
 |f::fs,l,x,h,hx=>by
  rw[kK,List.mem_append] at hx;rcases hx with hx|hx
  ·have:=A9 fs _ x (Uh h) hx;exact⟨this.1,by grind⟩
  ·obtain⟨q,_,h2,h3,h4⟩:=Mg hx;have:=A9 fs _ x (XL h (by omega) h3) h4;exact⟨this.1,by grind⟩
def Kh (ka kb:Nat):List Int->Nat->Bool
 |[],_=>false
 |m::l,k=>(decide (m ≠ -1) && (decide (ka<=k) || decide ((kb:Int)<=m))) || Kh ka kb l (k+1)
def Q4:List Int->Nat->Bool
 |[],_=>true
 |m::l,k=>decide ((k:Int)=m) && Q4 l (k+1)
def Ki (i j:Int) (ka kb:Nat) (l:List Int):Bool:=Kh ka kb l 0 && !(decide (i=j) && Q4 l 0)
theorem Mh {ka kb:Nat}:∀ {l:List Int}{k:Nat},Kh ka kb l k=true->∃ q m,l[q]?=some m/\m ≠ -1/\(ka<=k+q\/(kb:Int)<=m)
 |[],k,h=>by cases h
 |m::l,k,h=>by
  rw[Kh,Bool.or_eq_true] at h;rcases h with h|h
  ·simp only[Bool.and_eq_true,Bool.or_eq_true,decide_eq_true_eq] at h;exact⟨0,m,rfl,h.1,h.2⟩
  ·obtain⟨q,x,h1,h2,h3⟩:=Mh h;exact⟨q+1,x,by grind,h2,by omega⟩
def lG:List At->List Int->List Tm
 |f::F,m::l=>(if m=-1 then [] else f.a)++lG F l
 |_,_=>[]
def nQ (T:List At):List Int->List Tm
 |[]=>[]
 |m::l=>(if m=-1 then [] else match T[m.toNat]? with|some h=>h.a|none=>[])++nQ T l
def xK (u:List Bd) (a:At):At:=⟨a.n,a.a.map (iV u)⟩
def rV (u:List Bd) (s:List Im × Bool) (a:At):List Im × Bool:=(s.1++[⟨((s.1.length:Nat):Int)+1,a.n,a.a.map (iV u)⟩],s.2 && jI (xK u a))
def nn (u:List Bd):List At->List Im × Bool->List Im × Bool
 |[],s=>s
 |f::F,s=>nn u F (rV u s f)
def lH (u:List Bd) (l:List Int):List At->Nat->List Im × Bool->List Int->(List Im × Bool) × List Int
 |[],_,s,H=>(s,H)
 |b::T,m,s,H=>if 0<=du (fun x=>(m:Int) == x) l 0 then lH u l T (m+1) s (H++[du (fun x=>(m:Int) == x) l 0]) else lH u l T (m+1) (rV u s b) (H++[(s.1.length:Int)])
def upto:Nat->List Int
 |0=>[]
 |n+1=>upto n++[(n:Int)]
noncomputable def ue (u:List Bd):List Gl->List Gl->Bool->List Gl × Bool × Int
 |[],kn,p=>(kn,p,0)
 |g::G,kn,p=>if ft (lT u g)=true then (if qB (lT u g)=2 then ue u G kn false else if qB (lT u g)=0 then ue u G (kn++[lT u g]) p else ue u G kn p) else ([],false,6)
structure Pr where
 i:Int
 j:Int
 st:O4
 h0:List Int
 h1:List Int
def Mi:Pr:=⟨0,0,⟨[],[],[],[],[],0,0,false⟩,[],[]⟩
structure Ee where
 i:Int
 j:Int
 a:Rl
 b:Rl
 F:List At
 T:List At
noncomputable def Ui (c:Ee) (l:List Int) (u:List Bd):Pr × Bool × Int :=
 if (lH u l c.T 0 (nn u c.F ([],true)) []).1.2=true then
  match ue u (c.a.guard++c.b.guard) [] true with
  |(kn,p,e)=>if e ≠ 0\/p=false then (Mi,false,e) else
   (⟨c.i,c.j,⟨[],(lH u l c.T 0 (nn u c.F ([],true)) []).1.1,[],[],kn,(((lH u l c.T 0 (nn u c.F ([],true)) []).1.1.length:Nat):Int)+1,c.a.vars+c.b.vars,false⟩,upto c.F.length,(lH u l c.T 0 (nn u c.F ([],true)) []).2⟩,true,0)
 else (Mi,false,6)
noncomputable def ug (c:Ee) (l:List Int):Pr × Bool × Int :=
 if (jk (lG c.F l) (nQ c.T l)).2=0 then Ui c l (jk (lG c.F l) (nQ c.T l)).1
 else (Mi,false,if (jk (lG c.F l) (nQ c.T l)).2=13 then 0 else (jk (lG c.F l) (nQ c.T l)).2)
noncomputable def lI (c:Ee):List (List Int)->List Pr->List Pr × Int
 |[],out=>(out,0)
 |l::L,out=>if Ki c.i c.j c.a.aU.length c.b.aU.length l=true then
   (if (ug c l).2.2 ≠ 0 then ([],(ug c l).2.2) else if (ug c l).2.1=true then lI c L (out++[(ug c l).1]) else lI c L out)
  else lI c L out
noncomputable def lJ (i j:Int) (a b:Rl):Ee:=⟨i,j,a,vI a.vars b,a.aU++a.rem,(vI a.vars b).aU++(vI a.vars b).rem⟩
noncomputable def uh (p:Pg) (i j:Int):List Pr × Int :=
 if (lB p).2=0/\0<=i/\i<=j then
  match p.rs[i.toNat]?,p.rs[j.toNat]? with
  |some a,some b=>lI (lJ i j a b) (kK (lJ i j a b).T (lJ i j a b).F []) []
  |_,_=>([],2)
 else ([],2)
structure Ef (c:Ee) (x:Pr):Prop where
 i:x.i=c.i
 j:x.j=c.j
 n:x.st.store.length < x.h0.length+x.h1.length
 z:x.h0.length=c.F.length/\x.h1.length=c.T.length
 yL:∃ (a b:Nat) (m:Int),x.h0[a]?=some m/\x.h1[b]?=some m/\(c.a.aU.length<=a\/c.b.aU.length<=b)
theorem nq:∀ n,(upto n).length=n
 |0=>rfl
 |n+1=>by rw[upto,List.length_append,nq n];rfl
theorem Kj:∀ {n k},k < n->(upto n)[k]?=some (k:Int)
 |n+1,k,h=>by
  rw[upto];by_cases e:k < n
  ·rw[List.getElem?_append_left (by rw[nq];exact e)];exact Kj e
  ·grind[nq]
theorem CB {u:List Bd}:∀ (F:List At) (s:List Im × Bool),(nn u F s).1.length=s.1.length+F.length
 |[],s=>by rw[nn];simp
 |f::F,s=>by rw[nn,CB F,rV,List.length_append,List.length_cons];simp;omega
theorem xL {u:List Bd}{l:List Int}:∀ (T:List At) (m:Nat) (s:List Im × Bool) (H:List Int),∃ K,(lH u l T m s H).2=H++K/\K.length=T.length/\(lH u l T m s H).1.1.length<=s.1.length+T.length /\
  ∀ q,q < T.length->0<=du (fun x=>((m+q:Nat):Int) == x) l 0->K[q]?=some (du (fun x=>((m+q:Nat):Int) == x) l 0)/\(lH u l T m s H).1.1.length < s.1.length+T.length
 |[],m,s,H=>⟨[],by rw[lH];simp,rfl,by rw[lH];simp,fun q h=>by grind⟩
 |b::T,m,s,H=>by
  rw[lH];split
  ·rename_i hc;obtain⟨K,h1,h2,h3,h4⟩:=xL (u:=u) (l:=l) T (m+1) s (H++[du (fun x=>(m:Int) == x) l 0]);refine⟨du (fun x=>(m:Int) == x) l 0::K,by grind,by grind,by grind,fun q hq h0=>?_⟩;rw[List.length_cons] at hq ⊢
   match q with
   |0=>exact⟨rfl,by omega⟩
   |q+1 =>
    have e:m+(q+1)=m+1+q:=by omega
    rw[e] at h0 ⊢;have:=h4 q (by omega) h0;exact⟨by grind,by omega⟩
  ·rename_i hc;obtain⟨K,h1,h2,h3,h4⟩:=xL (u:=u) (l:=l) T (m+1) (rV u s b) (H++[(s.1.length:Int)]);have hs:(rV u s b).1.length=s.1.length+1:=by rw[rV];simp
   refine⟨(s.1.length:Int)::K,by grind,by grind,by grind,fun q hq h0=>?_⟩;rw[List.length_cons] at hq ⊢
   match q with
   |0=>exact absurd h0 hc
   |q+1 =>
    have e:m+(q+1)=m+1+q:=by omega
    rw[e] at h0 ⊢;have:=h4 q (by omega) h0;exact⟨by grind,by omega⟩
theorem Mj {m:Int}(hm:m ≠ -1):∀ {l:List Int}{q k:Nat},(l.filter fun m=>m != -1).Nodup->l[q]?=some m->du (fun x=>m == x) l k=((k+q:Nat):Int)
 |[],q,k,_,h=>by grind
 |y::l,0,k,hn,h=>by grind[du]
 |y::l,q+1,k,hn,h=>by
  have h:l[q]?=some m:=by grind
  have fG:m ∈ l:=List.mem_of_getElem? h;rw[List.filter_cons] at hn;have hy:y ≠ m:=by grind
  have hn:(l.filter fun m=>m != -1).Nodup:=by grind
  rw[du,if_neg (by grind),Mj hm hn h];congr 1;omega
theorem Q5 {c:Ee}{l:List Int}(hl:wE c.T l) (hn:l.length=c.F.length) (ho:Ki c.i c.j c.a.aU.length c.b.aU.length l=true) (h:(ug c l).2.1=true):Ef c (ug c l).1:=by
 unfold ug at h ⊢;split at h;rotate_left
 ·grind
 rename_i hz;rw[if_pos hz];unfold Ui at h ⊢;split at h;rotate_left
 ·grind
 rename_i LC;rw[if_pos LC];obtain⟨⟨kn,p,e⟩,hG⟩:∃ z,z=ue (jk (lG c.F l) (nQ c.T l)).1 (c.a.guard++c.b.guard) [] true:=⟨_,rfl⟩;rw[<-hG] at h ⊢;simp only at h ⊢;split at h
 ·grind
 rename_i hz3;rw[if_neg hz3];unfold Ki at ho;rw[Bool.and_eq_true] at ho;obtain⟨q,m,h1,h2,h3⟩:=Mh ho.1;obtain⟨t,rfl,ht⟩:=(hl.1 m (List.mem_of_getElem? h1)).resolve_left h2;obtain⟨K,k1,k2,k3,k4⟩:=xL (u:=(jk (lG c.F l) (nQ c.T l)).1) (l:=l) c.T 0 (nn (jk (lG c.F l) (nQ c.T l)).1 c.F ([],true)) [];have hi:=Mj h2 (k:=0) hl.2 h1;have k5:=k4 t ht (by grind);rw[CB] at k3 k5;have hql:q < c.F.length:=by grind
 refine⟨rfl,rfl,?_,⟨nq _,by grind⟩,q,t,(q:Int),?_,?_,by omega⟩
 ·grind[upto,lH,nq]
 ·exact Kj hql
 ·grind
theorem G2 {c:Ee}:∀ (L:List (List Int)) (out:List Pr),(∀ l ∈ L,wE c.T l/\l.length=c.F.length)->(∀ x ∈ out,Ef c x)->∀ x ∈ (lI c L out).1,Ef c x
 |[],out,_,ho,x,hx=>ho x (by grind[lI])
 |l::L,out,hL,ho,x,hx=>by
  have ih:=fun out h=>G2 L out (fun y hy=>hL y (by grind)) h x;rw[lI] at hx;split at hx
  ·grind[Q5]
  ·grind
theorem Kk {c:Ee}:∀ (L:List (List Int)) (out:List Pr),(lI c L out).2 ≠ 0->(lI c L out).1=[]
 |[],out,h=>by grind[lI]
 |l::L,out,h=>by
  have ih:=fun out=>Kk (c:=c) L out;rw[lI] at h ⊢;split at h<;>rename_i h1
  ·grind
  ·grind
theorem Kl {c:Ee}:∀ (L:List (List Int)) (out:List Pr),(lI c L out).1.length<=out.length+L.length
 |[],out=>by rw[lI];simp
 |l::L,out=>by
  have ih:=fun out=>Kl (c:=c) L out;rw[lI,List.length_cons];split
  ·grind
  ·grind
theorem Q6 {i j:Int}{a b:Rl}:∀ x ∈ (lI (lJ i j a b) (kK (lJ i j a b).T (lJ i j a b).F []) []).1,Ef (lJ i j a b) x :=
 G2 _ _ (fun l hl=>by
  have:=A9 _ _ _ ⟨fun m hm=>(by grind),by simp⟩ hl;exact⟨this.1,by grind⟩) fun x hx=>by grind
section
set_option maxRecDepth 100000
attribute [local irreducible] ah aC af ad
def Uj:FQ 42 Tryz.f42:=a_ Tryz.func42 Tryz.call42
def G3:List Nat:=[0,2,4]
def ai_:FQ 43 Tryz.f43:=a_ Tryz.func43 Tryz.call43
def g43:List Nat:=[2,3,4,0,1]
def aja:FQ 17 Tryz.f17:=a_ Tryz.func17 Tryz.call17
def g17:List Nat:=[2,0,1]
def ajb:FQ 40 Tryz.f40:=a_ Tryz.func40 Tryz.call40
def g40:List Nat:=[3,0,1,2]
def Uk:FQ 41 Tryz.f41:=a_ Tryz.func41 Tryz.call41
def dD:List Nat:=[0,27,1,3,6,5,13,2,23,26,28,25,7,55]
def cA (ρ:Hd) (p:Pg) (i j:Int) (a b:Rl) (f t:List At):List AV:=[gk ρ p.ds,Fx ρ p.rs,iv i,iv j,.v (.string a.n),dy ρ a.aU,dy ρ a.rem,cX ρ a.guard,cX ρ a.body,iv a.vars,.v (.string b.n),dy ρ b.aU,dy ρ b.rem,cX ρ b.guard,cX ρ b.body,iv b.vars,dy ρ f,dy ρ t]
theorem jQ {ρ:Hd}(p:Pg) (i j:Int) (a b:Rl) (f t:List At):∀ x ∈ cA ρ p i j a b f t,Pure x:=by
 simp[cA,dU,qq,b_,cL,Pure.v,iv]
def mO (c:List AV):List AV:=[.fn (.func 41) [] [.ip c,.pt 1 1 0 0,.pt 2 1 0 0]]
def so0 (c:List AV) (J:eP):List (Nat × Ob):=[(0,.fo J),(1,.arr 1 [[.yl 0]] 0 true),(2,.arr 1 [mO c] 0 true)]
def so1 (ρ:Hd) (c:List AV) (J:eP) (q:Nat) (W:List Int):List (Nat × Ob):=[(0,.fo J),(1,.arr 1 [[.yl 0]] 0 true),(2,.arr 1 [mO c] 0 true),(q,.arr 1 (ρ.h (List.map aP) W) 0 false)]
def ld (ρ:Hd) (L:List (List Int)):List (List AV):=L.map fun l=>[aX ρ aP false l]
section
variable {w0:World}{ρ:Hd}
theorem Fk (l:List Int):∀ row ∈ ρ.h (List.map aP) l,∀ a ∈ row,Pure a:=by
 rw[ρ.eq];intro row hr a ha;obtain⟨x,_,rfl⟩:=List.mem_map.1 hr;obtain rfl:=List.mem_singleton.1 ha;exact .v
theorem Oz (A:Option Addr) (c:Nat):ah Tryz.prog w0 42 [.v (.slice A 0 c)] (.sl true []):=by
 cases A with
 |none =>
  refine st Uj G3 ((.sl fun r h=>by grind)) ?_;refine og G3 (af.nil (b:=true) rfl rfl) ?_;refine fq ?_;exact .refl _
 |some A =>
  refine st Uj G3 ((.sl fun r h=>by grind)) ?_;refine og G3 (af.nil (b:=false) rfl rfl) ?_;refine og G3 (af.DR rfl rfl) ?_;refine fq ?_;exact .refl _
theorem Ul:ah Tryz.prog w0 42 [aX ρ aP false []] (.sl true []):=by
 rw[bQ];exact ah.emp Oz
theorem Um (R:List Int) (h0:R ≠ []) (hl:R.length<=100000000000):aC Tryz.prog w0 42 [aX ρ aP false R] (aq [] 0) (.gr 0 1 R.length) (aq [(0,.arr 1 (ρ.h (List.map aP) R) 0 false)] 1):=by
 have tt:xd (aX ρ aP false R)=some false:=by
  cases R with
  |nil=>exact absurd rfl h0
  |cons x l=>rw[bQ];rfl
 clear h0;refine sc 0 1 Uj ?_;refine gq G3 ?_;refine og G3 (af.nil tt rfl) ?_;refine ad.Hf (f:=aP) (ys:=R) rfl rfl rfl (fun _=>rfl) (by omega) fun acc len jP hlen=>?_;have hlen:len=R.length:=by grind
 subst jP;rw[<-hlen];refine gq G3 ?_;refine fq ?_;exact⟨[(0,0)],.iR rfl rfl,⟨.inl ⟨_,rfl,.same er⟩,trivial⟩,rfl⟩
theorem Q7 (a b:At):ah Tryz.prog w0 43 [at_ ρ a,at_ ρ b] (.v (.bool (Kg a b))):=by
 obtain⟨n,l⟩:=a;obtain⟨n',m⟩:=b;refine st ai_ g43 .v ?_
 repeat' (first
  |refine cg g43 (fun hb=>?_) fun hb=>?_
  |refine lg g43 fun m hm=>?_
  |(refine fq ?_))
 all_goals (refine aR.of_eq ?_;simp_all[Kg];try omega)
theorem Am {c:List AV}(hc:∀ a ∈ c,Pure a) {B:Nat}(hB:3<=B):fR B (.arr 1 [mO c] 0 true):=fun row hr a ha=>by
 obtain rfl:=List.mem_singleton.1 hr;obtain rfl:=List.mem_singleton.1 ha;refine .fn (fun a h=>by grind) fun a h=>?_;simp only[List.mem_cons,List.not_mem_nil,or_false] at h;rcases h with rfl|rfl|rfl
 ·exact .ip fun b hb=>(hc b hb).aV
 ·exact .pt (by omega)
 ·exact .pt (by omega)
theorem jR {B:Nat}(hB:1<=B):fR B (.arr 1 [[.yl 0]] 0 true):=fun row hr a ha=>by
 obtain rfl:=List.mem_singleton.1 hr;obtain rfl:=List.mem_singleton.1 ha;exact .yl (by omega)
theorem Mk {C:List AV}{J:eP}{T:ae}(hC:∀ a ∈ C,Pure a) (h0:T.get 0=some (.fo J)) (h1:T.get 1=some (.arr 1 [[.yl 0]] 0 true)) (h2:T.get 2=some (.arr 1 [mO C] 0 true)):im (aJ []) 3 T (so0 C J) :=
 ⟨⟨_,h0,.fo⟩,⟨_,h1,.row ⟨.yl rfl rfl,trivial⟩⟩,⟨_,h2,.row ⟨.fn trivial ⟨.pure (.ip hC),.pt rfl rfl,.pt rfl rfl,trivial⟩,trivial⟩⟩,trivial⟩
theorem o_ {C:List AV}{J:eP}{q:Nat}{W:List Int}{T:ae}(hC:∀ a ∈ C,Pure a) (hq:q=3\/3 < q) (hT:fC T (so1 ρ C J q W)):im (aJ [(3,q)]) 4 T (so1 ρ C J 3 W):=by
 have h0:=hT (0,.fo J) (by simp[so1]);have h1:=hT (1,.arr 1 [[.yl 0]] 0 true) (by simp[so1]);have h2:=hT (2,.arr 1 [mO C] 0 true) (by simp[so1]);have h3:=hT (q,.arr 1 (ρ.h (List.map aP) W) 0 false) (by simp[so1]);exact⟨⟨_,h0,.fo⟩,⟨_,h1,.row ⟨.yl rfl rfl,trivial⟩⟩,⟨_,h2,.row ⟨.fn trivial ⟨.pure (.ip hC),.pt rfl rfl,.pt rfl rfl,trivial⟩,trivial⟩⟩,⟨_,h3,.pure (Fk W)⟩,trivial⟩
theorem rz {C:List AV}{J:eP}{q:Nat}{W:List Int}{T:ae}{a0 a1 a3:AV}(hT:fC T (so1 ρ C J q W)):Hy w0 T [a0,a1,.pt 1 1 0 0,a3] 4 [(3,q)] :=
 Hy.cell (i:=2) (q:=0) (j0:=0) rfl (hT (1,.arr 1 [[.yl 0]] 0 true) (by simp[so1])) rfl (hT (0,.fo J) (by simp[so1])) (by decide) rfl
theorem rA {C:List AV}{J:eP}{q nx:Nat}{K:List (Nat × Option Ob)}(hC:∀ a ∈ C,Pure a) (hK:fu (cT (aJ [(3,q)]) 4 nx) (so0 C J) K):fu (cT (aJ [(3,q)]) 4 nx) (so0 C J) ((0,some (.fo J))::(1,some (.arr 1 [[.yl 0]] 0 true))::(2,some (.arr 1 [mO C] 0 true))::K) :=
 ⟨⟨0,_,rfl,rfl,.fo⟩,⟨1,_,rfl,rfl,.row ⟨.yl rfl,trivial⟩⟩,⟨2,_,rfl,rfl,.row ⟨.fn trivial ⟨.pure (.ip hC),.pt rfl,.pt rfl,trivial⟩,trivial⟩⟩,hK⟩
theorem XM {C:List AV}{J:eP}{nx:Nat}{K:List (Nat × Option Ob)}(hC:∀ a ∈ C,Pure a) (hK:fu (cT (aJ []) 3 nx) (so0 C J) K):fu (cT (aJ []) 3 nx) (so0 C J) ((0,some (.fo J))::(1,some (.arr 1 [[.yl 0]] 0 true))::(2,some (.arr 1 [mO C] 0 true))::K) :=
 ⟨⟨0,_,rfl,rfl,.fo⟩,⟨1,_,rfl,rfl,.row ⟨.yl rfl,trivial⟩⟩,⟨2,_,rfl,rfl,.row ⟨.fn trivial ⟨.pure (.ip hC),.pt rfl,.pt rfl,trivial⟩,trivial⟩⟩,hK⟩
theorem An {S:ae}{C:List AV}{J:eP}{q:Nat}{W:List Int}(h0:S.get 0=some (.fo J)) (h1:S.get 1=some (.arr 1 [[.yl 0]] 0 true)) (h2:S.get 2=some (.arr 1 [mO C] 0 true)) (h3:S.get q=some (.arr 1 (ρ.h (List.map aP) W) 0 false)):fC S (so1 ρ C J q W):=by
 intro p hp;simp only[so1,List.mem_cons,List.not_mem_nil,or_false] at hp;rcases hp with rfl|rfl|rfl|rfl<;>assumption
theorem Q8 {P:Program}{f:FuncId}{C:List AV}{W:List Int}{ra:AV}{J J':eP}(hC:∀ a ∈ C,Pure a) (Pt:Pure ra) (h:aC P w0 f [aX ρ aP false W,.ip C,.pt 1 1 0 0,.pt 2 1 0 0] (aq (so0 C J) 3) ra (aq (so0 C J') 3)) :
  aC P w0 f [.gr 3 1 W.length,.ip C,.pt 1 1 0 0,.pt 2 1 0 0] (aq (so1 ρ C J 3 W) 4) ra (aq (so0 C J') 7):=by
 have h1:=aC.Oa (m:=[]) (T:=aq (so0 C J) 4) (to:=[(0,some (.fo J')),(1,some (.arr 1 [[.yl 0]] 0 true)),(2,some (.arr 1 [mO C] 0 true)),(4,none),(5,none),(6,none)]) (args₀:=[aX ρ aP false W,.ip C,.pt 1 1 0 0,.pt 2 1 0 0]) (r₀:=ra) (e:=3) h ⟨.pure (bp _),.pure (.ip hC),.pt rfl rfl,.pt rfl rfl,trivial⟩ (.pure Pt) rfl rfl (Mk hC rfl rfl rfl) rfl (XM hC trivial) rfl rfl (Hy.cell (i:=2) (q:=0) (j0:=0) rfl (by rfl) rfl (by rfl) (by decide) rfl) (Nat.le_refl _);have e:(⟨dC (aq (so0 C J) 4).get [(0,some (.fo J')),(1,some (.arr 1 [[.yl 0]] 0 true)),(2,some (.arr 1 [mO C] 0 true)),(4,none),(5,none),(6,none)],(aq (so0 C J) 4).nx+3⟩:ae)=aq (so0 C J') 7:=by
  have hg:dC (aq (so0 C J) 4).get [(0,some (.fo J')),(1,some (.arr 1 [[.yl 0]] 0 true)),(2,some (.arr 1 [mO C] 0 true)),(4,none),(5,none),(6,none)]=dL (so0 C J'):=by
   funext k
   match k with
   |0=>rfl
   |1=>rfl
   |2=>rfl
   |3=>rfl
   |4=>rfl
   |5=>rfl
   |6=>rfl
   |k+7=>rfl
  unfold aq at hg ⊢;rw[hg]
 rw[e] at h1;refine aC.BJ (args':=[aX ρ aP false W,.ip C,.pt 1 1 0 0,.pt 2 1 0 0]) (N:=ae.none_.set 3 (some (.arr 1 (ρ.h (List.map aP) W) 0 false))) (S':=aq (so0 C J) 4) (fun k o hk=>?_) (Nat.le_refl _) (fun k o hk=>?_) ⟨?_,.refl _,.refl _,.refl _,trivial⟩ h1
 ·have hk:a7 ae.none_.get 3 (some (.arr 1 (ρ.h (List.map aP) W) 0 false)) k=some o:=hk;by_cases e:k=3
  ·subst e;rw[az] at hk;exact hk
  ·rw[aD _ _ e] at hk;cases hk
 ·match k,hk with
  |0,hk=>exact⟨hk,rfl⟩
  |1,hk=>exact⟨hk,rfl⟩
  |2,hk=>exact⟨hk,rfl⟩
  |k+3,hk=>cases hk
 ·exact aR.grow rfl rfl
theorem ae0 (p:Pg) (i j:Int) (a b:Rl) (f t:List At) (l:List Int) (hl:l.length=f.length) {J J':eP}{bb:Bool}(h:Ys Tryz.prog w0 J (ld ρ [l]) bb J') :
  aC Tryz.prog w0 41 [aX ρ aP false l,.ip (cA ρ p i j a b f t),.pt 1 1 0 0,.pt 2 1 0 0] (aq (so0 (cA ρ p i j a b f t) J) 3) (.v (.bool bb)) (aq (so0 (cA ρ p i j a b f t) J') 3):=by
 have h1:=Ys.one h;have cw:=jQ (ρ:=ρ) p i j a b f t;have hk:=Am cw (B:=3) (by decide);clear cw;unfold so0 mO cA at *;obtain⟨ds,rs⟩:=p;obtain⟨an,ak,ar,ag,ab,av⟩:=a;obtain⟨bn,bk,br,bg,gL,bv⟩:=b;refine sc 3 3 Uk ?_;refine gq dD ?_;refine cF fun n hn=>?_;rw[aE] at hn;refine gq dD ?_;refine cF fun m hm=>?_;rw[aE] at hm;refine gq dD ?_;refine cn (fun hb=>?_) fun hb=>?_;rotate_left
 ·grind
 refine gq dD ?_;refine og dD (af.yl rfl rfl (h1 _ _ rfl)) ?_;refine fq ?_;exact⟨[],.ao .v,⟨.inl ⟨_,rfl,.same trivial⟩,.inl ⟨_,rfl,.same (jR (by decide))⟩,.inl ⟨_,rfl,.same hk⟩,trivial⟩,rfl⟩
set_option maxHeartbeats 2000000 in
theorem ext_nil (p:Pg) (i j:Int) (a b:Rl) (f t:List At) (l:List Int) (h0:l=[]) (hl:l.length < f.length) (G4:f.length<=1000000) (r7:t.length<=1000000) (f0:At) (yH:f[l.length]?=some f0) (G:List Int->List (List Int))
  (ih:∀ (x:Int) (J J':eP) (bb:Bool),Ys Tryz.prog w0 J (ld ρ (G (l++[x]))) bb J'->aC Tryz.prog w0 41 [aX ρ aP false (l++[x]),.ip (cA ρ p i j a b f t),.pt 1 1 0 0,.pt 2 1 0 0] (aq (so0 (cA ρ p i j a b f t) J) 3) (.v (.bool bb)) (aq (so0 (cA ρ p i j a b f t) J') 3))
  {J J':eP}{bb:Bool}(h:Ys Tryz.prog w0 J (ld ρ (G (l++[-1])++sw f0 G l t 0)) bb J') :
  aC Tryz.prog w0 41 [aX ρ aP false l,.ip (cA ρ p i j a b f t),.pt 1 1 0 0,.pt 2 1 0 0] (aq (so0 (cA ρ p i j a b f t) J) 3) (.v (.bool bb)) (aq (so0 (cA ρ p i j a b f t) J') 3):=by
 have jz:=Ul (w0:=w0) (ρ:=ρ);rw[<-h0] at jz;have FZ:=fun i=>Ih (w0:=w0) (ρ:=ρ) l i (by omega);have Q9:=fun x=>Q7 (w0:=w0) (ρ:=ρ) f0 x;have cw:=jQ (ρ:=ρ) p i j a b f t;have hk:=Am cw (B:=3) (by decide);have qM:=Am cw (B:=30) (by decide);have wF:=fun (x:Int) (J J':eP) (bb:Bool) h=>Q8 (ρ:=ρ) cw .v (ih x J J' bb h);have hlW:∀ x:Int,(l++[x]).length=l.length+1:=fun x=>by simp
 simp only[hlW] at wF;clear ih;obtain⟨C,hC⟩:∃ C,C=cA ρ p i j a b f t:=⟨_,rfl⟩;rw[<-hC] at cw hk qM wF ⊢;rw[ld,List.map_append] at h;unfold so0;unfold mO at hk qM ⊢;unfold cA at hC;obtain⟨ds,rs⟩:=p;obtain⟨an,ak,ar,ag,ab,av⟩:=a;obtain⟨bn,bk,br,bg,gL,bv⟩:=b;obtain⟨fn,fa⟩:=f0;subst hC;refine sc 3 3 Uk ?_;refine gq dD ?_;refine cF fun m0 DQ=>?_;rw[aE] at DQ;refine gq dD ?_;refine cF fun m hm=>?_;rw[aE] at hm;refine gq dD ?_;refine bq (fun hb=>?_) (fun hb=>?_)<;>(try simp only[bX] at hb)
 ·grind
 refine gq dD ?_;refine ad.fe rfl (fun T=>af.aw rfl jz ⟨bp _,trivial⟩) ?_;refine gq dD ?_;refine ad.Ve (ρ:=ρ) (f:=aP) (ys:=[-1]) rfl rfl (by rw[bQ];rfl) (fun _=>rfl) (by decide) fun acc len jP hlen=>?_;refine gq dD ?_;rcases h.split with ⟨rfl,rB⟩|⟨J1,rB,Eg⟩
 ·have e1:=wF (-1) _ _ _ rB;rw[show l++[-1]=acc by grind,show l.length+1=len by grind] at e1;refine ad.iJ rfl (a6.qT [(3,3)] (so1 ρ (cA ρ ⟨ds,rs⟩ i j ⟨an,ak,ar,ag,ab,av⟩ ⟨bn,bk,br,bg,gL,bv⟩ f t) J 3 acc) ((0,some (.fo J'))::(1,some (.arr 1 [[.yl 0]] 0 true))::(2,some (.arr 1 [mO (cA ρ ⟨ds,rs⟩ i j ⟨an,ak,ar,ag,ab,av⟩ ⟨bn,bk,br,bg,gL,bv⟩ f t)] 0 true))::[(3,none),(4,none),(5,none),(6,none),(7,none),(8,none),(9,none),(10,none)]) e1 rfl ⟨.gr rfl rfl,.pure (.ip cw),.pt rfl rfl,.pt rfl rfl,trivial⟩ (.pure .v) (An rfl rfl rfl rfl) (fun T hT=>o_ cw (by decide) hT) (rA cw trivial) (fun T hT=>rz hT)) ?_;refine gq dD ?_;refine fq ?_;exact⟨[],.ao .v,⟨.inl ⟨_,rfl,.same trivial⟩,.inl ⟨_,rfl,.same (jR (by decide))⟩,.inl ⟨_,rfl,.same hk⟩,trivial⟩,rfl⟩
 have e1:=wF (-1) _ _ _ rB;rw[show l++[-1]=acc by grind,show l.length+1=len by grind] at e1;refine ad.iJ rfl (a6.qT [(3,3)] (so1 ρ (cA ρ ⟨ds,rs⟩ i j ⟨an,ak,ar,ag,ab,av⟩ ⟨bn,bk,br,bg,gL,bv⟩ f t) J 3 acc) ((0,some (.fo J1))::(1,some (.arr 1 [[.yl 0]] 0 true))::(2,some (.arr 1 [mO (cA ρ ⟨ds,rs⟩ i j ⟨an,ak,ar,ag,ab,av⟩ ⟨bn,bk,br,bg,gL,bv⟩ f t)] 0 true))::[(3,none),(4,none),(5,none),(6,none),(7,none),(8,none),(9,none),(10,none)]) e1 rfl ⟨.gr rfl rfl,.pure (.ip cw),.pt rfl rfl,.pt rfl rfl,trivial⟩ (.pure .v) (An rfl rfl rfl rfl) (fun T hT=>o_ cw (by decide) hT) (rA cw trivial) (fun T hT=>rz hT)) ?_;clear e1 rB h;refine gq dD ?_;refine cF fun m2 gH=>?_;rw[aE] at gH;refine gq dD ?_
 refine ad.bu (σ:=Int × eP) 30 30 [] (fun p=>[(0,aX ρ aP false l),(1,.ip (cA ρ ⟨ds,rs⟩ i j ⟨an,ak,ar,ag,ab,av⟩ ⟨bn,bk,br,bg,gL,bv⟩ f t)),(3,.pt 2 1 0 0),(25,dy ρ t),(26,.v (.int .i64 m2)),(27,.v (.int .i64 p.1))]) [] (fun p=>so0 (cA ρ ⟨ds,rs⟩ i j ⟨an,ak,ar,ag,ab,av⟩ ⟨bn,bk,br,bg,gL,bv⟩ f t) p.2)
  (fun p=>∃ z:Nat,p.1=z/\z<=t.length/\Ys Tryz.prog w0 p.2 (ld ρ (sw ⟨fn,fa⟩ G l (t.drop z) z)) bb J') (fun p=>t.length - p.1.toNat) (0,J1) ⟨0,rfl,by omega,Eg⟩ rfl
  ⟨⟨.ao rfl (Pure.aV (bp _)),.ao rfl (.ip fun b hb=>(cw b hb).aV),.ao rfl (.pt (by decide)),.ao rfl (Pure.aV (b_ _)),.ao rfl .v,.ao rfl .v,trivial⟩,rfl,⟨.inl ⟨_,rfl,.same trivial⟩,.inl ⟨_,rfl,.same (jR (by decide))⟩,.inl ⟨_,rfl,.same qM⟩,trivial⟩,rfl,rfl,rfl⟩ ?_
 rintro⟨i2,Jc⟩ ⟨z,hz,zT,ov⟩;simp only at hz ov;clear Eg;unfold so0 mO cA;refine gq dD ?_;refine bq (fun b8=>?_) (fun b8=>?_)<;>(try simp only[bX] at b8)
 rotate_left
 ·rw[List.drop_of_length_le (by omega),sw,ld,List.map_nil] at ov;obtain⟨rfl,rfl⟩:=ov.MK;refine gq dD ?_;refine ad.aH ?_;refine gq dD ?_;refine fq ?_;exact⟨[],.ao .v,⟨.inl ⟨_,rfl,.same trivial⟩,.inl ⟨_,rfl,.same (jR (by decide))⟩,.inl ⟨_,rfl,.same hk⟩,trivial⟩,rfl⟩
 obtain⟨x,hx,bK⟩:=bf (l:=t) (k:=z) (by omega);have IQ:=Q9 x;have i_:=FZ i2;have Q_:=wF i2;rw[bK,sw,ld,List.map_append,<-hz] at ov;obtain⟨c1,iw⟩:∃ c,c=Kg ⟨fn,fa⟩ x:=⟨_,rfl⟩;obtain⟨c2,c_⟩:∃ c,c=l.contains i2:=⟨_,rfl⟩;rw[<-iw] at IQ ov;rw[<-c_] at i_ ov;clear Q9 FZ wF iw c_;obtain⟨xn,xa⟩:=x;refine gq dD ?_;refine ad.op rfl (af.ind rfl rfl (aY (l:=t) hz hx) (aZ fun _=>rfl)) ?_;refine gq dD ?_;refine ad.R3 rfl (fun T=>af.len rfl) fun y hy=>?_;rw[aE] at hy;refine gq dD ?_;refine ad.fe rfl (fun T=>af.ind rfl rfl (aY (l:=f) hy yH) (aZ fun _=>rfl)) ?_;refine gq dD ?_;refine ad.fe rfl (fun T=>af.aw rfl IQ ⟨gF (ρ:=ρ) ⟨fn,fa⟩,gF (ρ:=ρ) ⟨xn,xa⟩,trivial⟩) ?_;cases c1 with
 |false =>
  refine gq dD ?_;refine cz (fun i3 iC=>?_);refine gq dD ?_;refine ad.aO (σ:=Int × eP) (i3,Jc) [] ⟨z+1,by grind,by omega,ov⟩ ?_ ⟨⟨.ao rfl (Pure.aV (bp _)),.ao rfl (.ip fun b hb=>(cw b hb).aV),.ao rfl (.pt (by decide)),.ao rfl (Pure.aV (b_ _)),.ao rfl .v,.ao rfl .v,trivial⟩,rfl,⟨.inl ⟨_,rfl,.same trivial⟩,.inl ⟨_,rfl,.same (jR (by decide))⟩,.inl ⟨_,rfl,.same qM⟩,trivial⟩,rfl,rfl,rfl⟩;simp only;omega
 |true =>
 refine gq dD ?_;refine ad.fe rfl (fun T=>af.aw rfl i_ ⟨bp _,.v,trivial⟩) ?_;cases c2 with
 |true =>
  refine gq dD ?_;refine cz (fun i3 iC=>?_);refine gq dD ?_;refine ad.aO (σ:=Int × eP) (i3,Jc) [] ⟨z+1,by grind,by omega,ov⟩ ?_ ⟨⟨.ao rfl (Pure.aV (bp _)),.ao rfl (.ip fun b hb=>(cw b hb).aV),.ao rfl (.pt (by decide)),.ao rfl (Pure.aV (b_ _)),.ao rfl .v,.ao rfl .v,trivial⟩,rfl,⟨.inl ⟨_,rfl,.same trivial⟩,.inl ⟨_,rfl,.same (jR (by decide))⟩,.inl ⟨_,rfl,.same qM⟩,trivial⟩,rfl,rfl,rfl⟩;simp only;omega
 |false =>
 refine gq dD ?_;refine ad.fe rfl (fun T=>af.aw rfl jz ⟨bp _,trivial⟩) ?_;refine gq dD ?_;refine ad.Ve (ρ:=ρ) (f:=aP) (ys:=[i2]) rfl rfl (by rw[bQ];rfl) (fun _=>rfl) (by simp) fun acc len jP hlen=>?_;refine gq dD ?_;simp only[Bool.not_false,Bool.and_self,if_true] at ov;rcases Ys.split ov with ⟨rfl,rB⟩|⟨J2,rB,Eg⟩
 ·have e1:=Q_ _ _ _ rB;rw[show l++[i2]=acc by grind,show l.length+1=len by grind] at e1;refine ad.iJ rfl (a6.qT [(3,31)] (so1 ρ (cA ρ ⟨ds,rs⟩ i j ⟨an,ak,ar,ag,ab,av⟩ ⟨bn,bk,br,bg,gL,bv⟩ f t) Jc 31 acc) ((0,some (.fo J'))::(1,some (.arr 1 [[.yl 0]] 0 true))::(2,some (.arr 1 [mO (cA ρ ⟨ds,rs⟩ i j ⟨an,ak,ar,ag,ab,av⟩ ⟨bn,bk,br,bg,gL,bv⟩ f t)] 0 true))::[(31,none),(32,none),(33,none),(34,none),(35,none),(36,none),(37,none),(38,none)]) e1 rfl ⟨.gr rfl rfl,.pure (.ip cw),.pt rfl rfl,.pt rfl rfl,trivial⟩ (.pure .v) (An rfl rfl rfl rfl) (fun T hT=>o_ cw (by decide) hT) (rA cw trivial) (fun T hT=>rz hT)) ?_;refine gq dD ?_;refine ad.cP ?_;refine gq dD ?_;refine fq ?_;exact⟨[],.ao .v,⟨.inl ⟨_,rfl,.same trivial⟩,.inl ⟨_,rfl,.same (jR (by decide))⟩,.inl ⟨_,rfl,.same hk⟩,trivial⟩,rfl⟩
 have e1:=Q_ _ _ _ rB;rw[show l++[i2]=acc by grind,show l.length+1=len by grind] at e1;refine ad.iJ rfl (a6.qT [(3,31)] (so1 ρ (cA ρ ⟨ds,rs⟩ i j ⟨an,ak,ar,ag,ab,av⟩ ⟨bn,bk,br,bg,gL,bv⟩ f t) Jc 31 acc) ((0,some (.fo J2))::(1,some (.arr 1 [[.yl 0]] 0 true))::(2,some (.arr 1 [mO (cA ρ ⟨ds,rs⟩ i j ⟨an,ak,ar,ag,ab,av⟩ ⟨bn,bk,br,bg,gL,bv⟩ f t)] 0 true))::[(31,none),(32,none),(33,none),(34,none),(35,none),(36,none),(37,none),(38,none)]) e1 rfl ⟨.gr rfl rfl,.pure (.ip cw),.pt rfl rfl,.pt rfl rfl,trivial⟩ (.pure .v) (An rfl rfl rfl rfl) (fun T hT=>o_ cw (by decide) hT) (rA cw trivial) (fun T hT=>rz hT)) ?_;refine gq dD ?_;refine cz (fun i3 iC=>?_);refine gq dD ?_;refine ad.aO (σ:=Int × eP) (i3,J2) [] ⟨z+1,by grind,by omega,Eg⟩ ?_ ⟨⟨.ao rfl (Pure.aV (bp _)),.ao rfl (.ip fun b hb=>(cw b hb).aV),.ao rfl (.pt (by decide)),.ao rfl (Pure.aV (b_ _)),.ao rfl .v,.ao rfl .v,trivial⟩,rfl,⟨.inl ⟨_,rfl,.same trivial⟩,.inl ⟨_,rfl,.same (jR (by decide))⟩,.inl ⟨_,rfl,.same qM⟩,trivial⟩,rfl,rfl,rfl⟩;simp only;omega
set_option maxHeartbeats 2000000 in
theorem ext_cons (p:Pg) (i j:Int) (a b:Rl) (f t:List At) (l:List Int) (h0:l ≠ []) (hl:l.length < f.length) (G4:f.length<=1000000) (r7:t.length<=1000000) (f0:At) (yH:f[l.length]?=some f0) (G:List Int->List (List Int))
  (ih:∀ (x:Int) (J J':eP) (bb:Bool),Ys Tryz.prog w0 J (ld ρ (G (l++[x]))) bb J'->aC Tryz.prog w0 41 [aX ρ aP false (l++[x]),.ip (cA ρ p i j a b f t),.pt 1 1 0 0,.pt 2 1 0 0] (aq (so0 (cA ρ p i j a b f t) J) 3) (.v (.bool bb)) (aq (so0 (cA ρ p i j a b f t) J') 3))
  {J J':eP}{bb:Bool}(h:Ys Tryz.prog w0 J (ld ρ (G (l++[-1])++sw f0 G l t 0)) bb J') :
  aC Tryz.prog w0 41 [aX ρ aP false l,.ip (cA ρ p i j a b f t),.pt 1 1 0 0,.pt 2 1 0 0] (aq (so0 (cA ρ p i j a b f t) J) 3) (.v (.bool bb)) (aq (so0 (cA ρ p i j a b f t) J') 3):=by
 have jz:=Um (w0:=w0) (ρ:=ρ) l h0 (by omega);obtain⟨LN,hLN⟩:∃ k,k=l.length:=⟨_,rfl⟩;rw[<-hLN] at jz;have FZ:=fun i=>Ih (w0:=w0) (ρ:=ρ) l i (by omega);have Q9:=fun x=>Q7 (w0:=w0) (ρ:=ρ) f0 x;have cw:=jQ (ρ:=ρ) p i j a b f t;have hk:=Am cw (B:=3) (by decide);have qM:=Am cw (B:=30) (by decide);have wF:=fun (x:Int) (J J':eP) (bb:Bool) h=>Q8 (ρ:=ρ) cw .v (ih x J J' bb h);have hlW:∀ x:Int,(l++[x]).length=l.length+1:=fun x=>by simp
 simp only[hlW] at wF;clear ih;obtain⟨C,hC⟩:∃ C,C=cA ρ p i j a b f t:=⟨_,rfl⟩;rw[<-hC] at cw hk qM wF ⊢;rw[ld,List.map_append] at h;unfold so0;unfold mO at hk qM ⊢;unfold cA at hC;obtain⟨ds,rs⟩:=p;obtain⟨an,ak,ar,ag,ab,av⟩:=a;obtain⟨bn,bk,br,bg,gL,bv⟩:=b;obtain⟨fn,fa⟩:=f0;subst hC;refine sc 3 3 Uk ?_;refine gq dD ?_;refine cF fun m0 DQ=>?_;rw[aE] at DQ;refine gq dD ?_;refine cF fun m hm=>?_;rw[aE] at hm;refine gq dD ?_;refine bq (fun hb=>?_) (fun hb=>?_)<;>(try simp only[bX] at hb)
 ·grind
 refine gq dD ?_;refine ad.iJ rfl (a6.kC [] [] [(3,some (.arr 1 (ρ.h (List.map aP) l) 0 false))] jz rfl ⟨.pure (bp _),trivial⟩ (.gr rfl) (fun p hp=>by grind) (fun T hT=>trivial) ⟨⟨0,_,rfl,rfl,.pure (Fk l)⟩,trivial⟩) ?_;refine gq dD ?_;refine ad.A4 (ρ:=ρ) (f:=aP) (acc:=l) (-1) rfl rfl rfl hLN (fun _=>rfl) rfl rfl rfl (by omega) fun acc len jP hlen=>?_;refine gq dD ?_;rcases h.split with ⟨rfl,rB⟩|⟨J1,rB,Eg⟩
 ·have e1:=wF (-1) _ _ _ rB;rw[<-jP,show l.length+1=len by grind] at e1;refine ad.iJ rfl (a6.qT [(3,4)] (so1 ρ (cA ρ ⟨ds,rs⟩ i j ⟨an,ak,ar,ag,ab,av⟩ ⟨bn,bk,br,bg,gL,bv⟩ f t) J 4 acc) ((0,some (.fo J'))::(1,some (.arr 1 [[.yl 0]] 0 true))::(2,some (.arr 1 [mO (cA ρ ⟨ds,rs⟩ i j ⟨an,ak,ar,ag,ab,av⟩ ⟨bn,bk,br,bg,gL,bv⟩ f t)] 0 true))::[(4,none),(5,none),(6,none),(7,none),(8,none),(9,none),(10,none),(11,none)]) e1 rfl ⟨.gr rfl rfl,.pure (.ip cw),.pt rfl rfl,.pt rfl rfl,trivial⟩ (.pure .v) (An rfl rfl rfl rfl) (fun T hT=>o_ cw (by decide) hT) (rA cw trivial) (fun T hT=>rz hT)) ?_;refine gq dD ?_;refine fq ?_;exact⟨[],.ao .v,⟨.inl ⟨_,rfl,.same trivial⟩,.inl ⟨_,rfl,.same (jR (by decide))⟩,.inl ⟨_,rfl,.same hk⟩,trivial⟩,rfl⟩
 have e1:=wF (-1) _ _ _ rB;rw[<-jP,show l.length+1=len by grind] at e1;refine ad.iJ rfl (a6.qT [(3,4)] (so1 ρ (cA ρ ⟨ds,rs⟩ i j ⟨an,ak,ar,ag,ab,av⟩ ⟨bn,bk,br,bg,gL,bv⟩ f t) J 4 acc) ((0,some (.fo J1))::(1,some (.arr 1 [[.yl 0]] 0 true))::(2,some (.arr 1 [mO (cA ρ ⟨ds,rs⟩ i j ⟨an,ak,ar,ag,ab,av⟩ ⟨bn,bk,br,bg,gL,bv⟩ f t)] 0 true))::[(4,none),(5,none),(6,none),(7,none),(8,none),(9,none),(10,none),(11,none)]) e1 rfl ⟨.gr rfl rfl,.pure (.ip cw),.pt rfl rfl,.pt rfl rfl,trivial⟩ (.pure .v) (An rfl rfl rfl rfl) (fun T hT=>o_ cw (by decide) hT) (rA cw trivial) (fun T hT=>rz hT)) ?_;clear e1 rB h;refine gq dD ?_;refine cF fun m2 gH=>?_;rw[aE] at gH;refine gq dD ?_
 refine ad.bu (σ:=Int × eP) 30 30 [] (fun p=>[(0,aX ρ aP false l),(1,.ip (cA ρ ⟨ds,rs⟩ i j ⟨an,ak,ar,ag,ab,av⟩ ⟨bn,bk,br,bg,gL,bv⟩ f t)),(3,.pt 2 1 0 0),(25,dy ρ t),(26,.v (.int .i64 m2)),(27,.v (.int .i64 p.1))]) [] (fun p=>so0 (cA ρ ⟨ds,rs⟩ i j ⟨an,ak,ar,ag,ab,av⟩ ⟨bn,bk,br,bg,gL,bv⟩ f t) p.2)
  (fun p=>∃ z:Nat,p.1=z/\z<=t.length/\Ys Tryz.prog w0 p.2 (ld ρ (sw ⟨fn,fa⟩ G l (t.drop z) z)) bb J') (fun p=>t.length - p.1.toNat) (0,J1) ⟨0,rfl,by omega,Eg⟩ rfl
  ⟨⟨.ao rfl (Pure.aV (bp _)),.ao rfl (.ip fun b hb=>(cw b hb).aV),.ao rfl (.pt (by decide)),.ao rfl (Pure.aV (b_ _)),.ao rfl .v,.ao rfl .v,trivial⟩,rfl,⟨.inl ⟨_,rfl,.same trivial⟩,.inl ⟨_,rfl,.same (jR (by decide))⟩,.inl ⟨_,rfl,.same qM⟩,trivial⟩,rfl,rfl,rfl⟩ ?_
 rintro⟨i2,Jc⟩ ⟨z,hz,zT,ov⟩;simp only at hz ov;clear Eg;unfold so0 mO cA;refine gq dD ?_;refine bq (fun b8=>?_) (fun b8=>?_)<;>(try simp only[bX] at b8)
 rotate_left
 ·rw[List.drop_of_length_le (by omega),sw,ld,List.map_nil] at ov;obtain⟨rfl,rfl⟩:=ov.MK;refine gq dD ?_;refine ad.aH ?_;refine gq dD ?_;refine fq ?_;exact⟨[],.ao .v,⟨.inl ⟨_,rfl,.same trivial⟩,.inl ⟨_,rfl,.same (jR (by decide))⟩,.inl ⟨_,rfl,.same hk⟩,trivial⟩,rfl⟩
 obtain⟨x,hx,bK⟩:=bf (l:=t) (k:=z) (by omega);have IQ:=Q9 x;have i_:=FZ i2;have Q_:=wF i2;rw[bK,sw,ld,List.map_append,<-hz] at ov;obtain⟨c1,iw⟩:∃ c,c=Kg ⟨fn,fa⟩ x:=⟨_,rfl⟩;obtain⟨c2,c_⟩:∃ c,c=l.contains i2:=⟨_,rfl⟩;rw[<-iw] at IQ ov;rw[<-c_] at i_ ov;clear Q9 FZ wF iw c_;obtain⟨xn,xa⟩:=x;refine gq dD ?_;refine ad.op rfl (af.ind rfl rfl (aY (l:=t) hz hx) (aZ fun _=>rfl)) ?_;refine gq dD ?_;refine ad.R3 rfl (fun T=>af.len rfl) fun y hy=>?_;rw[aE] at hy;refine gq dD ?_;refine ad.fe rfl (fun T=>af.ind rfl rfl (aY (l:=f) hy yH) (aZ fun _=>rfl)) ?_;refine gq dD ?_;refine ad.fe rfl (fun T=>af.aw rfl IQ ⟨gF (ρ:=ρ) ⟨fn,fa⟩,gF (ρ:=ρ) ⟨xn,xa⟩,trivial⟩) ?_;cases c1 with
 |false =>
  refine gq dD ?_;refine cz (fun i3 iC=>?_);refine gq dD ?_;refine ad.aO (σ:=Int × eP) (i3,Jc) [] ⟨z+1,by grind,by omega,ov⟩ ?_ ⟨⟨.ao rfl (Pure.aV (bp _)),.ao rfl (.ip fun b hb=>(cw b hb).aV),.ao rfl (.pt (by decide)),.ao rfl (Pure.aV (b_ _)),.ao rfl .v,.ao rfl .v,trivial⟩,rfl,⟨.inl ⟨_,rfl,.same trivial⟩,.inl ⟨_,rfl,.same (jR (by decide))⟩,.inl ⟨_,rfl,.same qM⟩,trivial⟩,rfl,rfl,rfl⟩;simp only;omega
 |true =>
 refine gq dD ?_;refine ad.fe rfl (fun T=>af.aw rfl i_ ⟨bp _,.v,trivial⟩) ?_;cases c2 with
 |true =>
  refine gq dD ?_;refine cz (fun i3 iC=>?_);refine gq dD ?_;refine ad.aO (σ:=Int × eP) (i3,Jc) [] ⟨z+1,by grind,by omega,ov⟩ ?_ ⟨⟨.ao rfl (Pure.aV (bp _)),.ao rfl (.ip fun b hb=>(cw b hb).aV),.ao rfl (.pt (by decide)),.ao rfl (Pure.aV (b_ _)),.ao rfl .v,.ao rfl .v,trivial⟩,rfl,⟨.inl ⟨_,rfl,.same trivial⟩,.inl ⟨_,rfl,.same (jR (by decide))⟩,.inl ⟨_,rfl,.same qM⟩,trivial⟩,rfl,rfl,rfl⟩;simp only;omega
 |false =>
 refine gq dD ?_;refine ad.iJ rfl (a6.kC [] [] [(31,some (.arr 1 (ρ.h (List.map aP) l) 0 false))] jz rfl ⟨.pure (bp _),trivial⟩ (.gr rfl) (fun p hp=>by grind) (fun T hT=>trivial) ⟨⟨0,_,rfl,rfl,.pure (Fk l)⟩,trivial⟩) ?_;refine gq dD ?_;refine ad.A4 (ρ:=ρ) (f:=aP) (acc:=l) i2 rfl rfl rfl hLN (fun _=>rfl) rfl rfl rfl (by omega) fun acc len jP hlen=>?_;refine gq dD ?_;simp only[Bool.not_false,Bool.and_self,if_true] at ov;rcases Ys.split ov with ⟨rfl,rB⟩|⟨J2,rB,Eg⟩
 ·have e1:=Q_ _ _ _ rB;rw[<-jP,show l.length+1=len by grind] at e1;refine ad.iJ rfl (a6.qT [(3,32)] (so1 ρ (cA ρ ⟨ds,rs⟩ i j ⟨an,ak,ar,ag,ab,av⟩ ⟨bn,bk,br,bg,gL,bv⟩ f t) Jc 32 acc) ((0,some (.fo J'))::(1,some (.arr 1 [[.yl 0]] 0 true))::(2,some (.arr 1 [mO (cA ρ ⟨ds,rs⟩ i j ⟨an,ak,ar,ag,ab,av⟩ ⟨bn,bk,br,bg,gL,bv⟩ f t)] 0 true))::[(32,none),(33,none),(34,none),(35,none),(36,none),(37,none),(38,none),(39,none)]) e1 rfl ⟨.gr rfl rfl,.pure (.ip cw),.pt rfl rfl,.pt rfl rfl,trivial⟩ (.pure .v) (An rfl rfl rfl rfl) (fun T hT=>o_ cw (by decide) hT) (rA cw trivial) (fun T hT=>rz hT)) ?_;refine gq dD ?_;refine ad.cP ?_;refine gq dD ?_;refine fq ?_;exact⟨[],.ao .v,⟨.inl ⟨_,rfl,.same trivial⟩,.inl ⟨_,rfl,.same (jR (by decide))⟩,.inl ⟨_,rfl,.same hk⟩,trivial⟩,rfl⟩
 have e1:=Q_ _ _ _ rB;rw[<-jP,show l.length+1=len by grind] at e1;refine ad.iJ rfl (a6.qT [(3,32)] (so1 ρ (cA ρ ⟨ds,rs⟩ i j ⟨an,ak,ar,ag,ab,av⟩ ⟨bn,bk,br,bg,gL,bv⟩ f t) Jc 32 acc) ((0,some (.fo J2))::(1,some (.arr 1 [[.yl 0]] 0 true))::(2,some (.arr 1 [mO (cA ρ ⟨ds,rs⟩ i j ⟨an,ak,ar,ag,ab,av⟩ ⟨bn,bk,br,bg,gL,bv⟩ f t)] 0 true))::[(32,none),(33,none),(34,none),(35,none),(36,none),(37,none),(38,none),(39,none)]) e1 rfl ⟨.gr rfl rfl,.pure (.ip cw),.pt rfl rfl,.pt rfl rfl,trivial⟩ (.pure .v) (An rfl rfl rfl rfl) (fun T hT=>o_ cw (by decide) hT) (rA cw trivial) (fun T hT=>rz hT)) ?_;refine gq dD ?_;refine cz (fun i3 iC=>?_);refine gq dD ?_;refine ad.aO (σ:=Int × eP) (i3,J2) [] ⟨z+1,by grind,by omega,Eg⟩ ?_ ⟨⟨.ao rfl (Pure.aV (bp _)),.ao rfl (.ip fun b hb=>(cw b hb).aV),.ao rfl (.pt (by decide)),.ao rfl (Pure.aV (b_ _)),.ao rfl .v,.ao rfl .v,trivial⟩,rfl,⟨.inl ⟨_,rfl,.same trivial⟩,.inl ⟨_,rfl,.same (jR (by decide))⟩,.inl ⟨_,rfl,.same qM⟩,trivial⟩,rfl,rfl,rfl⟩;simp only;omega
theorem OA (p:Pg) (i j:Int) (a b:Rl) (f t:List At) (G4:f.length<=1000000) (r7:t.length<=1000000):∀ (fs:List At) (l:List Int),f.drop l.length=fs->l.length<=f.length->∀ {J J':eP}{bb:Bool},Ys Tryz.prog w0 J (ld ρ (kK t fs l)) bb J' ->
  aC Tryz.prog w0 41 [aX ρ aP false l,.ip (cA ρ p i j a b f t),.pt 1 1 0 0,.pt 2 1 0 0] (aq (so0 (cA ρ p i j a b f t) J) 3) (.v (.bool bb)) (aq (so0 (cA ρ p i j a b f t) J') 3)
 |[],l,hd,hle,J,J',bb,hY=>by
  have hl:f.length<=l.length:=List.drop_eq_nil_iff.1 hd;rw[kK] at hY;exact ae0 p i j a b f t l (by omega) hY
 |f0::fs,l,hd,hle,J,J',bb,hY=>by
  have hh:f[l.length]?=some f0:=by
   have:(f.drop l.length)[0]?=some f0:=by grind
   rw[List.getElem?_drop,Nat.add_zero] at this;exact this
  have aA:l.length < f.length:=(List.getElem?_eq_some_iff.1 hh).1;have jq:∀ x:Int,f.drop (l++[x]).length=fs:=fun x=>by
   have:(f.drop l.length).drop 1=fs:=by grind
   rw[List.drop_drop] at this;rw[List.length_append];exact this
  rw[kK] at hY;by_cases h0:l=[]
  ·exact ext_nil p i j a b f t l h0 aA G4 r7 f0 hh (kK t fs) (fun x J J' bb h=>OA p i j a b f t G4 r7 fs (l++[x]) (jq x) (by grind) h) hY
  ·exact ext_cons p i j a b f t l h0 aA G4 r7 f0 hh (kK t fs) (fun x J J' bb h=>OA p i j a b f t G4 r7 fs (l++[x]) (jq x) (by grind) h) hY
theorem Ra {S:ae}:aR S (.sl true []) (aX ρ aP false []):=by rw[bQ];exact aR.wk
theorem Un (p:Pg) (i j:Int) (a b:Rl) (f t:List At) (G4:f.length<=1000000) (r7:t.length<=1000000):Iter Tryz.prog w0 40 [] [.ip (cA ρ p i j a b f t)] (ld ρ (kK t f [])):=by
 intro J bb J' hy;refine⟨.aG [],aq [(0,.fo J')] 1,?_,rfl⟩;have cw:=jQ (ρ:=ρ) p i j a b f t;have e0:=OA (w0:=w0) (ρ:=ρ) p i j a b f t G4 r7 f [] rfl (Nat.zero_le _) hy;have e0:=aC.BJ (args':=[aX ρ aP false [],.ip (cA ρ p i j a b f t),.pt 1 1 0 0,.pt 2 1 0 0]) (args:=[.sl true [],.ip (cA ρ p i j a b f t),.pt 1 1 0 0,.pt 2 1 0 0]) (N:=ae.none_) (S:=aq (so0 (cA ρ p i j a b f t) J) 3) (S':=aq (so0 (cA ρ p i j a b f t) J) 3) (fun k o hk=>by cases hk) (Nat.le_refl _) (fun k o hk=>⟨hk,rfl⟩) ⟨Ra,.refl _,.refl _,.refl _,trivial⟩ e0;obtain⟨ds,rs⟩:=p;obtain⟨an,ak,ar,ag,ab,av⟩:=a;obtain⟨bn,bk,br,bg,gL,bv⟩:=b;refine sc 1 1 ajb ?_;simp only[List.nil_append,List.cons_append,cA];refine gq g40 ?_;refine og g40 (af.qT [] [(0,some (.fo J')),(1,none),(2,none),(3,none),(4,none),(5,none)] e0 rfl ⟨.pure (.sl fun r h=>by grind),.pure (.ip cw),.pt rfl rfl,.pt rfl rfl,trivial⟩ (.pure .v) (Mk cw rfl rfl rfl) ⟨⟨0,_,rfl,rfl,.fo⟩,trivial⟩ (Hy.cell (i:=2) (q:=0) (j0:=0) rfl (by rfl) rfl (by rfl) (by decide) rfl)) ?_;refine fq ?_;exact⟨[],.ao (.aG fun a h=>by grind),⟨.inl ⟨_,rfl,.same trivial⟩,trivial⟩,rfl⟩
theorem Uo (p:Pg) (i j:Int) (a b:Rl) (f t:List At):ah Tryz.prog w0 17 [.agg (cA ρ p i j a b f t)] (.fn (.func 40) [] [.ip (cA ρ p i j a b f t)]):=by
 have cw:=jQ (ρ:=ρ) p i j a b f t;obtain⟨ds,rs⟩:=p;obtain⟨an,ak,ar,ag,ab,av⟩:=a;obtain⟨bn,bk,br,bg,gL,bv⟩:=b;unfold cA at cw ⊢;refine st aja g17 ((.fn (fun a ha=>by grind) fun a ha=>by obtain rfl:=List.mem_singleton.1 ha;exact .ip cw)) ?_
 repeat' (first
  |(refine fq ?_))
 refine aR.fns ?_ ?_
 ·exact trivial
 ·exact⟨aR.box (cs:=cA ρ ⟨ds,rs⟩ i j ⟨an,ak,ar,ag,ab,av⟩ ⟨bn,bk,br,bg,gL,bv⟩ f t) (cs':=cA ρ ⟨ds,rs⟩ i j ⟨an,ak,ar,ag,ab,av⟩ ⟨bn,bk,br,bg,gL,bv⟩ f t) rfl ⟨.refl _,.refl _,.refl _,.refl _,.refl _,.refl _,.refl _,.refl _,.refl _,.refl _,.refl _,.refl _,.refl _,.refl _,.refl _,.refl _,.refl _,.refl _,trivial⟩,trivial⟩
end
end
end Go.Proofs.YtbpabjmnhggajaaGreat
