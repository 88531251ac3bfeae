import Derived.Test.YtgjfgekaclobaaaGreatCa23
import Derived.Test.YtgjfgekaclobaaaGreatCa25
namespace Go.Proofs.YtgjfgekaclobaaaGreat
set_option linter.unusedVariables false
set_option linter.unusedSimpArgs false
open Go.RowKit
section
set_option maxRecDepth 100000
attribute [local irreducible] ah aK ae aa
def Uy:CF Tryz.f218:=⟨_,by conv=>lhs;cbv⟩
theorem adB:aT Tryz.prog 218 Uy.1 Tryz.f218.ntmps:=bX Tryz.func218 Uy.2 Tryz.call218
def rT:List Nat:=[8,0,5,4,7,9,1,16]
def Uz:CF Tryz.f328:=⟨_,by conv=>lhs;cbv⟩
theorem adC:aT Tryz.prog 328 Uz.1 Tryz.f328.ntmps:=bX Tryz.func328 Uz.2 Tryz.call328
def rU:List Nat:=[8,0,5,4,7,9,1,16]
def UA:CF Tryz.f278:=⟨_,by conv=>lhs;cbv⟩
theorem adD:aT Tryz.prog 278 UA.1 Tryz.f278.ntmps:=bX Tryz.func278 UA.2 Tryz.call278
def Rc:List Nat:=[4,0,1]
section
variable {w0:World}{ρ:Hd}
theorem aac (p:Dc->Bool) (l:List Dc) (gid:FuncId) (fs cs:List AV) (hl:l.length<=1099511627776) (hF:Pure (.fn (.func gid) fs cs)) (h:∀ x ∈ l,IQ Tryz.prog w0 (.fn (.func gid) fs cs) [dc x] (p x)):ah Tryz.prog w0 328 [gI ρ l,.fn (.func gid) fs cs] (iv (gD p l 0)):=by
 obtain⟨R,hR⟩:∃ R,R=gD p l 0:=⟨_,rfl⟩
 rw [<-hR]
 refine adC.bu (by simp [Tryz.ntmps328]) (.v) ?_
 refine gq rU ?_
 repeat' (first
  |(refine bL fun m hm=>?_;(try rw [aF] at hm);refine gq rU ?_)
  )
 refine aa.bP (σ:=Int) 0 0 [] (fun i=>[(0,gI ρ l),(1,.fn (.func gid) fs cs),(7,.v (.int .i64 m)),(8,.v (.int .i64 i))]) [] (fun _=>[])
  (fun i=>∃ k:Nat,i=k/\k<=l.length/\R=gD p (l.drop k) k) (fun i=>l.length - i.toNat) 0 ⟨0,rfl,by simp,by simpa using hR⟩ rfl ⟨⟨.aB rfl (Pure.b9 (dK _)),.aB rfl (Pure.b9 hF),.aB rfl .v,.aB rfl .v,trivial⟩,rfl,trivial,rfl,rfl,rfl⟩ ?_
 rintro i ⟨k,hi,hk,hp⟩
 clear hR
 refine gq rU ?_
 by_cases aA:k < l.length
 ·obtain⟨x,hx,cg⟩:=cd aA
  rw [cg,gD] at hp
  have hf:=h x (g8 hx)
  repeat' (first
   |(refine aa.op rfl (ae.ind rfl rfl (bU (l:=l) hi hx) (bV fun _=>rfl)) ?_;refine gq rU ?_)
   |(refine aa.bif rfl (ae.fnB rfl rfl hf) (fun _=>?_) (fun _=>?_)<;>refine gq rU ?_)
   |(refine bq (fun hb=>?_) (fun hb=>?_)<;>(try simp only [aM] at hb)<;>(first|refine gq rU ?_))
   |(refine cr fun _ _=>?_;refine gq rU ?_)
   |(refine aa.aR ?_;refine gq rU ?_)
   |(refine aa.iB ?_;refine gq rU ?_)
   |(refine fq ?_))
  all_goals first
   |(rw [if_pos (by assumption)] at hp;refine oU ?_;omega)
   |(rw [if_neg (by simp_all)] at hp
     refine aa.bm (σ:=Int) _ [] ?_ ?_ ⟨⟨.aB rfl (Pure.b9 (dK _)),.aB rfl (Pure.b9 hF),.aB rfl .v,.aB rfl .v,trivial⟩,rfl,trivial,rfl,rfl,rfl⟩
     ·exact⟨k+1,by omega,by omega,hp⟩
     ·omega)
   |(exfalso;omega)
 ·skip
  repeat' (first
   |(refine bq (fun hb=>?_) (fun hb=>?_)<;>(try simp only [aM] at hb)<;>(first|refine gq rU ?_))
   |(refine aa.aR ?_;refine gq rU ?_)
   |(refine fq ?_))
  all_goals first
   |(exfalso;omega)
   |(rw [hp,List.drop_eq_nil_of_le (by omega)];exact oU rfl)
theorem aad (p:Dc->Bool) (l:List Dc) (gid:FuncId) (fs cs:List AV) (hl:l.length<=1099511627776) (hF:Pure (.fn (.func gid) fs cs)) (h:∀ x ∈ l,IQ Tryz.prog w0 (.fn (.func gid) fs cs) [dc x] (p x)):ah Tryz.prog w0 278 [gI ρ l,.fn (.func gid) fs cs] (.v (.bool (l.any p))):=by
 have hI:=aac (w0:=w0) (ρ:=ρ) p l gid fs cs hl hF h
 have po:=rS p l 0
 obtain⟨j,hj⟩:∃ j,j=gD p l 0:=⟨_,rfl⟩
 rw [<-hj] at hI po
 refine adD.bu (by simp [Tryz.ntmps278]) (.v) ?_
 refine gq Rc ?_
 repeat' (first
  |(refine aa.int rfl (ae.aL rfl hI ⟨dK _,hF,trivial⟩) fun _ _=>?_;refine gq Rc ?_)
  |(refine bq (fun hb=>?_) (fun hb=>?_)<;>(try simp only [aM] at hb)<;>(first|refine gq Rc ?_))
  |(refine fq ?_))
 all_goals (subst_vars;refine eQ ?_;rw [<-po];simp_all)
end
end
section
set_option maxRecDepth 100000
attribute [local irreducible] ah aK ae aa
def fB (b:Bool):AV:=.v (.bool b)
def DZ (s:List Int):List (Int × Bool):=s.map fun i=>(i,true)
theorem D0 (s:List Int) (i:Int):aD (DZ s) i=if s.contains i then some true else none:=by
 induction s with
 |nil=>rfl
 |cons x s ih =>
  rw [DZ,List.map_cons,aD,List.contains_cons]
  rw [DZ] at ih
  by_cases h:x=i
  ·simp [h]
  ·have h':¬ i=x:=fun e=>h e.symm
   simp [h,h',ih]
theorem Re {s:List Int}{i:Int}(h:s.contains i=false):eV (DZ s) i true=DZ (s++[i]):=by
 induction s with
 |nil=>rfl
 |cons x s ih =>
  rw [List.contains_cons,Bool.or_eq_false_iff] at h
  have h1:¬ x=i:=fun e=>by simp [e] at h
  have h2:=ih h.2
  rw [DZ] at h2
  simp only [DZ,List.map_cons,List.cons_append,eV,h1,if_false]
  rw [h2];rfl
def adE (ρ:Hd) (p:List Int × List (Int × Bool) × Nat):List (Nat × Ob):=[(0,.arr 1 [[.gr 4 1 p.2.2]] 0 true),(1,.mp (ρ.h (cX fB) p.2.1)),(2,.arr 1 [[.mp 1]] 0 true),(3,.df),(4,.arr 1 (ρ.h (List.map cM) p.1) 0 false)]
section
variable {w0:World}{ρ:Hd}
theorem CM {B:Nat}{kv:List (Int × Bool)}:fV B (.mp (ρ.h (cX fB) kv)):=by
 rw [ρ.eq]
 intro e he
 obtain⟨p,_,rfl⟩:=List.mem_map.1 he
 exact .v
theorem iF {B sz fz:Nat}{s:List Int}{ex:Bool}:fV B (.arr sz (ρ.h (List.map cM) s) fz ex):=yF fun x _ a ha=>by
 obtain rfl:=List.mem_singleton.1 ha
 exact .v
theorem aae (gid:FuncId) (fs cs:List AV) (xs:List Int) (hl:xs.length<=1099511627776) (hf:∀ a ∈ fs,Pure a) (hc:∀ a ∈ cs,Pure a) (DI:Iter Tryz.prog w0 gid fs cs (xs.map cM)) :
  ah Tryz.prog w0 211 [.fn (.func gid) fs cs] (cE ρ cM false (pD [] xs)):=by
 obtain⟨R,hR⟩:∃ R,R=pD [] xs:=⟨_,rfl⟩
 rw [<-hR]
 refine adw.bu (by simp [Tryz.ntmps211]) ((gy _)) ?_
 refine gq xh ?_
 refine aa.fk ρ fB rfl fun kv lx=>?_
 subst lx
 refine gq xh ?_
 refine aa.range (σ:=List Int × List (Int × Bool) × Nat) cM xs 4 5 [] [(3,.pt 0 1 0 0),(4,.pt 2 1 0 0)] (adE ρ) (fun rest p=>R=p.1++pD p.1 rest/\p.1.length+rest.length<=1099511627776/\p.2.1=DZ p.1/\p.2.2=p.1.length) ([],[],0) rfl hf hc DI rfl ⟨by simpa using hR,by simpa using hl,rfl,rfl⟩ rfl
  (by intro p hp;simp only [List.mem_cons,List.not_mem_nil,or_false] at hp;rcases hp with rfl|rfl<;>exact .pt (by decide)) rfl (fun x=>⟨rfl,fun a ha=>by obtain rfl:=List.mem_singleton.1 ha;exact .v⟩)
  ⟨⟨.aB rfl (.pt (by decide)),.aB rfl (.pt (by decide)),trivial⟩,rfl,⟨.inl ⟨_,rfl,.arr ⟨⟨.ja,trivial⟩,trivial⟩⟩,.inl ⟨_,rfl,.same CM⟩,.inl ⟨_,rfl,.arr ⟨⟨.aB (.mp (by decide)),trivial⟩,trivial⟩⟩,.inl ⟨_,rfl,.same trivial⟩,.inr rfl,trivial⟩,rfl,rfl,rfl⟩ ?_ ?_
 ·rintro x rest ⟨s,kv,len⟩ ⟨hI,hlen,lx,sZ⟩
  simp only at hI hlen lx sZ
  rw [pD] at hI
  rw [List.length_cons] at hlen
  refine gq xh ?_
  refine aa.look rfl rfl rfl rfl (fun v hv=>?_) (fun hv=>?_)
  ·rw [lx,D0] at hv
   have hs:s.contains x=true:=by
    cases hc:s.contains x with
    |true=>rfl
    |false=>rw [if_neg (by rw [hc];simp)] at hv;cases hv
   rw [if_pos hs] at hv hI
   obtain rfl:=oJ_ hv
   refine gq xh ?_
   refine aa.Q5 (s,kv,len) [(4,4)] ⟨hI,by simp only;omega,lx,sZ⟩ ⟨trivial,rfl,⟨.inl ⟨_,rfl,.arr ⟨⟨.jc rfl rfl,trivial⟩,trivial⟩⟩,.inl ⟨_,rfl,.same CM⟩,.inl ⟨_,rfl,.arr ⟨⟨.aB (.mp (by decide)),trivial⟩,trivial⟩⟩,.inl ⟨_,rfl,.same trivial⟩,.inl ⟨_,rfl,.same iF⟩,trivial⟩,rfl,rfl,rfl⟩
  ·rw [lx,D0] at hv
   have hs:s.contains x=false:=by
    cases hc:s.contains x with
    |true=>rw [if_pos hc] at hv;cases hv
    |false=>rfl
   rw [if_neg (by rw [hs];simp)] at hI
   refine gq xh ?_
   refine aa.jf (v:=true) rfl rfl rfl rfl rfl fun qz aaf=>?_
   rw [lx,Re hs] at aaf
   refine gq xh ?_
   refine aa.app (x:=x) (f:=cM) rfl rfl rfl sZ (fun _=>rfl) rfl rfl rfl rfl (by omega) fun s' eU eD vp=>?_
   refine gq xh ?_
   refine aa.Q5 (s',qz,eU) [(4,5)] ⟨by simp only;rw [hI,eD];simp,by simp only;rw [eD];simp;omega,by simp only;rw [aaf,eD],vp⟩ ⟨trivial,rfl,⟨.inl ⟨_,rfl,.arr ⟨⟨.jc rfl rfl,trivial⟩,trivial⟩⟩,.inl ⟨_,rfl,.same CM⟩,.inl ⟨_,rfl,.arr ⟨⟨.aB (.mp (by decide)),trivial⟩,trivial⟩⟩,.inl ⟨_,rfl,.same trivial⟩,.inl ⟨_,rfl,.same iF⟩,trivial⟩,rfl,rfl,rfl⟩
 ·rintro⟨s,kv,len⟩ ⟨hI,_,lx,sZ⟩
  simp only at hI lx sZ
  rw [pD,List.append_nil] at hI
  refine gq xh ?_
  subst hI
  refine aa.fin (by conv=>lhs;cbv) ?_
  exact bp.grow rfl sZ
theorem xu:∀ (l s:List Int),(pD s l).length<=l.length
 |[],s=>Nat.le_refl _
 |x::l,s=>by
  rw [pD]
  split
  ·have:=xu l s;simp;omega
  ·have:=xu l (s++[x]);simp;omega
def varsOf (l:List Tm):List Int:=pD [] (dL l)
theorem D1 (l:List Tm) (hl:l.length<=1099511627776) (hk:mc l) (hv:(dL l).length<=1099511627776):ah Tryz.prog w0 211 [.fn (.func 281) [] [.ip [tl ρ l]]] (cE ρ cM false (varsOf l)) :=
 aae _ [] _ _ hv (fun a ha=>by cases ha) (fun a ha=>by obtain rfl:=List.mem_singleton.1 ha;exact .ip fun b hb=>by obtain rfl:=List.mem_singleton.1 hb;exact bl _) (X8 l hl hk)
theorem J8 (x:Gl) (hl:x.a.length<=1099511627776) (hk:mc x.a) (hv:(dL x.a).length<=1099511627776):ah Tryz.prog w0 141 [gl ρ x] (cE ρ cM false (varsOf x.a)):=by
 have h1:=OF (w0:=w0) (ρ:=ρ) x.a
 have h2:=D1 (w0:=w0) (ρ:=ρ) x.a hl hk hv
 obtain⟨o,n,a⟩:=x
 dsimp only at h1 h2 ⊢
 obtain⟨R,hR⟩:∃ R,R=varsOf a:=⟨_,rfl⟩
 rw [<-hR] at h2 ⊢
 clear hv hl hk hR
 refine ady.bu (by simp [Tryz.ntmps141]) ((gy _)) ?_
 refine gq Q7 ?_
 repeat' (first
  |((refine aa.op rfl (ae.aL rfl h1 ⟨bl _,trivial⟩) ?_;refine gq Q7 ?_))
  |((refine aa.op rfl (ae.aL rfl h2 ⟨.fn (fun a ha=>by cases ha) fun a ha=>by obtain rfl:=List.mem_singleton.1 ha;exact .ip fun b hb=>by obtain rfl:=List.mem_singleton.1 hb;exact bl _,trivial⟩) ?_;refine gq Q7 ?_))
  |(refine fq ?_))
 exact bp.of_eq rfl
theorem J9 (x:At) (hl:x.a.length<=1099511627776) (hk:mc x.a) (hv:(dL x.a).length<=1099511627776):ah Tryz.prog w0 143 [at_ ρ x] (cE ρ cM false (varsOf x.a)):=by
 have h1:=OF (w0:=w0) (ρ:=ρ) x.a
 have h2:=D1 (w0:=w0) (ρ:=ρ) x.a hl hk hv
 obtain⟨n,a⟩:=x
 dsimp only at h1 h2 ⊢
 obtain⟨R,hR⟩:∃ R,R=varsOf a:=⟨_,rfl⟩
 rw [<-hR] at h2 ⊢
 clear hv hl hk hR
 refine adx.bu (by simp [Tryz.ntmps143]) ((gy _)) ?_
 refine gq Q6 ?_
 repeat' (first
  |((refine aa.op rfl (ae.aL rfl h1 ⟨bl _,trivial⟩) ?_;refine gq Q6 ?_))
  |((refine aa.op rfl (ae.aL rfl h2 ⟨.fn (fun a ha=>by cases ha) fun a ha=>by obtain rfl:=List.mem_singleton.1 ha;exact .ip fun b hb=>by obtain rfl:=List.mem_singleton.1 hb;exact bl _,trivial⟩) ?_;refine gq Q6 ?_))
  |(refine fq ?_))
 exact bp.of_eq rfl
end
end
section
variable {P:Program}{w0:World}{dr:Bool}{N:Nat}{so:List (Nat × Ob)}{S T:ad}{α:AA}{f:FuncId}{args:List AV}{r:AV}
theorem Rn.b9 {a:AV}(h:dg N a):Rn id N a a:=fun g w x hr=>aH.b9 (B:=N) (g:=g) (g':=g.pre id N) (fun k hk ha=>⟨hk,ha⟩) (fun _ _=>rfl) (fun _ _=>rfl) (fun _ _ h=>h) hr h
theorem dA.b9 {g g':Gh}{w:World}{B b cp:Nat}{o:Ob}(aO:∀ k,k < B->g.al k->g'.al k) (iI:∀ k,k < B->g.al k->g'.ob k=g.ob k) (eS:∀ k,k < B->g.al k->g'.cp k=g.cp k) (hf:g'.fz=g.fz) (hk:fV B o) (hn:∀ J,o ≠ .fo J)
  (hr:∀ {a:AV}{x:Value},dg B a->aH g w a x->aH g' w a x) (h:dA g w b cp o):dA g' w b cp o:=by
 cases o with
 |arr sz rows fz ex =>
  obtain⟨cs,ty,h1,h2,h3,h4,h5,h6,h7⟩:=h
  refine⟨cs,ty,h1,h2,h3,h4,fun i row eK=>⟨(h5 i row eK).1,fun j a ha=>?_⟩,h6,by rw [hf];exact h7⟩
  obtain⟨x,hx,dH⟩:=(h5 i row eK).2 j a ha
  exact⟨x,hx,hr (hk _ (List.mem_of_getElem? eK) _ (List.mem_of_getElem? ha)) dH⟩
 |mp es =>
  obtain⟨entries,clock,h1,h2,h3⟩:=h
  refine⟨entries,clock,h1,h2,fun i k a ha=>?_⟩
  obtain⟨e,he,fy,OL⟩:=h3 i k a ha
  exact⟨e,he,fy,hr (hk _ (List.mem_of_getElem? ha)) OL⟩
 |mb es =>
  obtain⟨entries,h1,h2,h3,h4⟩:=h
  refine⟨entries,h1,h2,fun i k a ha=>?_,h4⟩
  obtain⟨e,he,fy,OL⟩:=h3 i k a ha
  exact⟨e,he,fy,hr (hk _ (List.mem_of_getElem? ha)) OL⟩
 |lp st lU tm ps assign body =>
  obtain⟨L,h1,h2,h3,h4,h5,h6,h7,h8⟩:=h
  exact⟨L,h1,h2,h3,h4,h5,h6,fun t ht=>hr (hk t) (h7 t ht),h8⟩
 |df=>exact h
 |si s pos=>exact h
 |fo J=>exact absurd rfl (hn J)
 |un=>exact h.elim
theorem jY.b9 {o:Ob}(hk:fV N o) (hn:∀ J,o ≠ .fo J):jY id N o o:=by
 refine⟨fun g w b cp h=>?_,fun J h=>h⟩
 exact dA.b9 (B:=N) (g:=g) (g':=g.pre id N) (fun k hk ha=>⟨hk,ha⟩) (fun _ _ _=>rfl) (fun _ _ _=>rfl) rfl hk hn (fun hk h=>Rn.b9 hk g w _ h) h
theorem aH.back {gc g:Gh}{w:World}{o:Nat->Nat}(ho:∀ k,k < N->o k=k) (hB:Bk o gc g):∀ {a:AV}{x:Value},dg N a->aH gc w a x->aH g w a x:=by
 have aO:∀ k,k < N->gc.al k->g.al k:=fun k hk ha=>by have:=hB.al k ha;rwa [ho k hk] at this
 have iI:∀ k,k < N->gc.al k->g.ob k=gc.ob k:=fun k hk ha=>by have:=hB.ob k ha;rwa [ho k hk] at this
 have eS:∀ k,k < N->gc.al k->g.cp k=gc.cp k:=fun k hk ha=>by have:=hB.cp k ha;rwa [ho k hk] at this
 have qy:=hB.fz
 intro a x hp h
 induction h with
 |u=>exact .u
 |v=>exact .v
 |agg hs h ih=>cases hp with|agg hp=>exact .agg hs fun i a x h1 h2=>ih i a x h1 h2 (hp _ (List.mem_of_getElem? h1))
 |aE hs h ih=>cases hp with|aE hp=>exact .aE hs fun i a x h1 h2=>ih i a x h1 h2 (hp _ (List.mem_of_getElem? h1))
 |nil hc=>exact .nil hc
 |sl hn oc hle hl h hr ih =>
  cases hp with
  |sl hp=>exact .sl hn oc hle hl (fun i j row a h1 h2=>⟨by rw [qy];exact (h i j row a h1 h2).1,(h i j row a h1 h2).2⟩) (fun i j row a h1 h2=>ih i j row a h1 h2 (hp _ (List.mem_of_getElem? h1) _ (List.mem_of_getElem? h2)))
 |ip h hr ih =>
  cases hp with
  |ip hp=>exact .ip (fun i a h1=>⟨by rw [qy];exact (h i a h1).1,(h i a h1).2⟩) (fun i a h1=>ih i a h1 (hp _ (List.mem_of_getElem? h1)))
 |ob hk hc N_ hx hle =>
  cases hp with
  |ob aA =>
   rw [<-iI _ aA hk]
   exact .ob (aO _ aA hk) hc (by rw [eS _ aA hk];exact N_) (by rw [eS _ aA hk];exact hx) hle
 |pt hk =>
  cases hp with
  |pt aA=>rw [<-iI _ aA hk];exact .pt (aO _ aA hk)
 |mp hk =>
  cases hp with
  |mp aA=>rw [<-iI _ aA hk];exact .mp (aO _ aA hk)
 |yl hk =>
  cases hp with
  |yl aA=>rw [<-iI _ aA hk];exact .yl (aO _ aA hk)
 |ja=>exact .ja
 |gr hk hx hle =>
  cases hp with
  |gr aA=>rw [<-iI _ aA hk];exact .gr (aO _ aA hk) (by rw [eS _ aA hk];exact hx) hle
 |fn h1 h2 h3 h4 N6 Fj =>
  cases hp with
  |fn p1 p2=>exact .fn h1 h2 (fun i a x e1 e2=>N6 i a x e1 e2 (p1 _ (List.mem_of_getElem? e1))) (fun i a x e1 e2=>Fj i a x e1 e2 (p2 _ (List.mem_of_getElem? e1)))
structure Bu (so:List (Nat × Ob)) (N:Nat) (T:ad):Prop where
 le:N<=T.nx
 get:∀ j o,dF so j=some o->j < N/\T.get j=some o/\fV N o/\∀ J,o ≠ .fo J
 all:∀ j,j < N->∃ o,dF so j=some o
theorem aK.same (h:aK P w0 f args (au so N) r (au so N)) (hT:Bu so N T) (ha:∀ a ∈ args,dg N a) (hr:dg N r):aK P w0 f args T r T:=by
 obtain⟨T',rV⟩:∃ T':ad,T'=⟨fun k=>if k < T.nx then T.get k else none,T.nx⟩:=⟨_,rfl⟩
 have get':∀ k o,T'.get k=some o->k < T.nx/\T.get k=some o:=fun k o hk=>by
  rw [rV] at hk
  have hk:(if k < T.nx then T.get k else none)=some o:=hk
  split at hk
  ·exact⟨by assumption,hk⟩
  ·cases hk
 have mV:T'.nx=T.nx:=by rw [rV]
 have ql:∀ k o,k < T.nx->T.get k=some o->T'.get k=some o:=fun k o hk h=>by
  rw [rV]
  show (if k < T.nx then T.get k else none)=some o
  rw [if_pos hk];exact h
 have hle:=hT.le
 have ho:∀ k,k < N->cV id N T'.nx k=k:=fun k hk=>mG hk
 have hf:Fits id (au so N) (au so N) T' T':=by
  refine⟨fun i j _ _ e=>e,fun j hj=>by rw [mV];exact Nat.lt_of_lt_of_le hj hle,fun j o hj=>?_,fun k o hk=>?_,.inr ⟨Nat.le_refl _,rfl⟩,.inr fun j J hj=>?_⟩
  ·obtain⟨h1,h2,h3,h4⟩:=hT.get j o hj
   exact⟨o,ql j o (Nat.lt_of_lt_of_le h1 hle) h2,jY.b9 h3 h4⟩
  ·obtain⟨h1,h2⟩:=get' k o hk
   by_cases fy:k < N
   ·obtain⟨o',UB⟩:=hT.all k fy
    obtain⟨q1,q2,q3,q4⟩:=hT.get k o' UB
    obtain rfl:o'=o:=by rw [h2] at q2;exact (oJ_ q2).symm
    refine .inl ⟨k,o',ho k fy,UB,fun gc g w b cp hB _ nQ=>?_,fun J e=>e⟩
    have oD:∀ k,k < N->cV id (au so N).nx T'.nx k=k:=ho
    exact dA.b9 (B:=N) (fun k hk ha=>by have:=hB.al k ha;rwa [oD k hk] at this) (fun k hk ha=>by have:=hB.ob k ha;rwa [oD k hk] at this) (fun k hk ha=>by have:=hB.cp k ha;rwa [oD k hk] at this) hB.fz q3 q4 (fun hk h=>aH.back oD hB hk h) nQ
   ·exact .inr ⟨by rw [mV];exact h1,fun j hj e=>fy (by rw [<-e];exact hj),hk⟩
  ·obtain⟨_,_,_,h4⟩:=hT.get j _ hj
   exact absurd rfl (h4 J)
 have hc:=h.frame hf rfl (fun i a b h1 h2=>by
  rw [h1] at h2
  obtain rfl:=oJ_ h2
  exact Rn.b9 (ha _ (List.mem_of_getElem? h1))) (fun gc g w x hB nQ=>aH.back (N:=N) (o:=cV id (au so N).nx T'.nx) ho hB hr nQ)
 refine⟨hc.1,fun F m A g aQ w hF hS hA=>(hc.2 F m A g aQ w hF (hS.forget (by rw [mV];exact Nat.le_refl _) fun j p hj _=>(get' j p hj).2) hA).mono ?_⟩
 rintro e w' ⟨v,g',rfl,h1,h2,h3⟩
 refine⟨v,g',rfl,h1,h2.forget (by rw [mV];exact Nat.le_refl _) fun j p hj aO=>?_,h3⟩
 have:=h2.al j aO
 exact ql j p (by rw [<-mV];exact this) hj
theorem ae.adF {f:QO}{fe:List QO}{g:FuncId}{args:List AV}(hc:aK P w0 g args (au so N) r (au so N)) (h:dM (f.ev α.tm) (fe.map (·.ev α.tm))=some (g,args)) (hT:Bu so N T) (ha:∀ a ∈ args,dg N a) (hr:dg N r):ae P w0 dr (.call f fe) α T r T :=
 ae.call h (hc.same hT ha hr) fun _=>rfl
end
section
variable {P:Program}{w0:World}{α:AA}{S:ad}
theorem ae.Bv {x i b:QO}{k:Nat}{es:List (Value × AV)}{m:Int}{a:AV}(hx:x.ev α.tm=.mp k) (hS:S.get k=some (.mp es)) (hk:kN es) (hi:i.ev α.tm=.v (.int .i64 m)) (hb:b.ev α.tm=a) :
  ae P w0 true (.jf x i b) α S (.v undef) (S.set k (some (.mp (tw es m a)))):=by
 intro n o hr
 obtain⟨t,u,v,y,kt,et,kk,ho,rfl,rfl,rfl,h1,h2⟩:=Ac hr
 rw [aJ] at hx hi hb
 have e:∀ z ∈ [u,v,y],(α.only (cB o)).ev z=α.ev z:=fun z hz=>ew fun t ht=>ee (by rw [ho];simp [Op.operands,<-ht];simpa using hz)
 exact⟨(Fx ho h1 h2 (by rw [e u (by simp)];exact hx) hS hk (by rw [e v (by simp)];exact hi) (by rw [e y (by simp)];exact hb)).ops (fun c e=>by rw [ho] at e;cases e),
  fun hp=>(by rw [ho] at hp;cases hp),fun hw=>(by rw [ho] at hw;cases hw)⟩
theorem aa.Bv {rd:Bool}{n:Nat}{Q:Exit->AA->ad->Prop}{l:List QI}{K:List fc}{ρ:Hd}{T:Type}{f:T->AV}{kv:List (Int × T)}{d:Option Nat}{g:Option (Nat × Bool)}{x i b:QO}{k:Nat}{m:Int}{v:T}(hw:bD α.tm g=some true) (hx:x.ev α.tm=.mp k) (hS:S.get k=some (.mp (ρ.h (cX f) kv))) (hi:i.ev α.tm=.v (.int .i64 m)) (hb:b.ev α.tm=f v)
  (k1:∀ qz,qz=eV kv m v->aa P w0 rd n Q (.aU true l K) (bS d α (.v undef)) (S.set k (some (.mp (ρ.h (cX f) qz))))):aa P w0 rd n Q (.aU true (⟨d,g,.jf x i b⟩::l) K) α S:=by
 have h:=ae.Bv (P:=P) (w0:=w0) hx hS (by rw [ρ.eq];exact nV) hi hb
 rw [ρ.eq,z_,<-ρ.eq (cX f)] at h
 exact aa.op (i:=⟨d,g,.jf x i b⟩) hw h (k1 _ rfl)
end
end Go.Proofs.YtgjfgekaclobaaaGreat
