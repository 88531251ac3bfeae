import Derived.Shelf.SlIterI.Collect
import Derived.Shelf.SlIterI.Sorted
import Derived.Shelf.SortM.Plain
import Derived.Shelf.SortM.SortNone
import Derived.Test.YtgjfgekaclobaaaGreatCm50
namespace Go.Proofs.YtgjfgekaclobaaaGreat
set_option linter.unusedVariables false
set_option linter.unusedSimpArgs false
open Go.RowKit
section
set_option maxRecDepth 100000
open Go.RowKit Go.Maps Go.Sort Go.Shelf
theorem C6 {H:Type}(x:Lit × DataW H):∀ l,(DataW.insert x l).Perm (x::l)
 |[]=>.refl _
 |y::r=>by
  rw [DataW.insert]
  split
  ·exact .refl _
  ·exact ((C6 x r).cons y).trans (.swap x y r)
theorem uv {H:Type}:∀ l:List (Lit × DataW H),(l.foldr DataW.insert []).Perm l
 |[]=>.refl _
 |x::l=>by rw [List.foldr_cons];exact (C6 x _).trans ((uv l).cons x)
def C7:Value->Option (DataW Unit × List MemPlace):=fun _=>some (.nil,[])
theorem TW {P:Program}{w:World}{b:Nat}{kt:TypeId}{entries:Array MapEntry}{ks:List Int}(hk:P.underlying kt=some (.int .i64)) (h1:w.heap[b]?=some (.map entries entries.size)) (hs:entries.size=ks.length)
  (IC:∀ (i:Nat) (x:Int),ks[i]?=some x->∃ e:MapEntry,entries[i]?=some e/\e.key=encZ x) (hb:∀ (i:Nat) (e:MapEntry),entries[i]?=some e->e.born=i) (vK:ks.Nodup) (hr:∀ x ∈ ks,(Lit.int .i64 x).wf=true) (hl:ks.length<=maxLen) :
  ∃ D:DataW Unit,w.ownsMap P kt C7 b ks.length D/\(intKeys D).Perm ks/\Maps.size D=ks.length:=by
 have e1:entries.toList.map (·.key)=ks.map encZ:=by
  apply List.ext_getElem?
  intro i
  rw [List.getElem?_map,List.getElem?_map,Array.getElem?_toList]
  cases hx:ks[i]? with
  |none =>
   have:entries[i]?=none:=by
    rw [List.getElem?_eq_none_iff] at hx
    rw [Array.getElem?_eq_none_iff]
    omega
   rw [this];rfl
  |some x =>
   obtain⟨e,h2,h3⟩:=IC i x hx
   rw [h2,Option.map_some,Option.map_some,h3]
 have e2:entries.toList.map (·.born)=List.range entries.size:=by
  apply List.ext_getElem?
  intro i
  rw [List.getElem?_map,Array.getElem?_toList]
  by_cases hi:i < entries.size
  ·rw [List.getElem?_range hi,Array.getElem?_eq_getElem hi,Option.map_some,hb i _ (Array.getElem?_eq_getElem hi)]
  ·rw [Array.getElem?_eq_none (by omega),List.getElem?_eq_none (by simpa using hi)];rfl
 have e3:∀ x ∈ entries.toList,∃ z,x.key=encZ z/\z ∈ ks:=fun x hx=>by
  have:x.key ∈ entries.toList.map (·.key):=List.mem_map.2 ⟨x,hx,rfl⟩
  rw [e1] at this
  obtain⟨z,hz,e⟩:=List.mem_map.1 this
  exact⟨z,e.symm,hz⟩
 have e4:∀ x ∈ entries.toList,∀ z,x.key=encZ z->WideElems.rd P kt C7 x=some (.int .i64 z,.nil):=fun x hx z hz=>by
  obtain⟨z',h2,h3⟩:=e3 x hx
  obtain rfl:z=z':=encZ_inj (by rw [<-hz,<-h2])
  unfold WideElems.rd
  rw [hz,keyOf_int_mk hk (hr z h3)]
  rfl
 have hF:WideElems.Fit P kt C7 entries entries.size:=by
  refine⟨by omega,⟨fun x hx=>?_,?_,?_⟩,fun x hx=>?_⟩
  ·have:x.born ∈ entries.toList.map (·.born):=List.mem_map.2 ⟨x,hx,rfl⟩
   rw [e2] at this
   exact List.mem_range.1 this
  ·rw [e2];exact List.nodup_range
  ·rw [e1]
   exact List.pairwise_map.2 (vK.imp fun h e=>h (encZ_inj e))
  ·obtain⟨z,h2,h3⟩:=e3 x hx
   exact⟨_,e4 x hx z h2⟩
 refine⟨_,⟨entries,entries.size,h1,hF,by omega,rfl⟩,?_,?_⟩
 ·show (((entries.toList.map (WideElems.rg P kt C7)).foldr DataW.insert []).map fun p=>Go.intOf p.1).Perm ks
  refine ((uv _).map _).trans ?_
  rw [List.map_map]
  have:entries.toList.map ((fun p=>Go.intOf p.1) ∘ WideElems.rg P kt C7)=ks:=by
   have h5:entries.toList.map ((fun p=>Go.intOf p.1) ∘ WideElems.rg P kt C7)=(entries.toList.map (·.key)).map fun v=>match v with|.int _ z=>z|_=>0:=by
    rw [List.map_map]
    refine List.map_congr_left fun x hx=>?_
    obtain⟨z,h2,h3⟩:=e3 x hx
    simp only [Function.comp]
    unfold WideElems.rg
    rw [e4 x hx z h2,h2]
    rfl
   rw [h5,e1,List.map_map]
   conv=>rhs;rw [<-List.map_id ks]
   exact List.map_congr_left fun x _=>rfl
  rw [this]
 ·show ((entries.toList.map (WideElems.rg P kt C7)).foldr DataW.insert []).length=ks.length
  rw [(uv _).length_eq,List.length_map,Array.length_toList,hs]
theorem nR:∀ {l:List Int},l.Pairwise (fun a b=>a<=b)->l.Nodup->qF l
 |[],_,_=>trivial
 |x::l,h,hn=>by
  rw [List.pairwise_cons] at h
  rw [List.nodup_cons] at hn
  refine⟨fun y hy=>?_,nR h.2 hn.2⟩
  have:=h.1 y hy
  have:x ≠ y:=fun e=>hn.1 (by rw [e];exact hy)
  omega
theorem M4 {ss ks L:List Int}(hp:ss.Perm ks) (vK:ks.Nodup) (hL:qF L) (hm:∀ v,v ∈ L ↔ v ∈ ks):ss.mergeSort (fun x y=>decide (x<=y))=L:=by
 have t_:=(List.mergeSort_perm ss (fun x y=>decide (x<=y))).trans hp
 refine wA (nR ?_ (t_.nodup_iff.2 vK)) hL fun x=>?_
 ·have:=List.pairwise_mergeSort (le:=fun x y:Int=>decide (x<=y)) (fun a b c h1 h2=>by simp only [decide_eq_true_eq] at *;omega) (fun a b=>by simp only [Bool.or_eq_true,decide_eq_true_eq];omega) ss
  exact this.imp fun h=>by simpa using h
 ·rw [t_.mem_iff,hm]
section
variable {w0:World}{ρ:Hd}
theorem TX (m:Nat):AnyZI.SortsIn Tryz.prog Tryz.vo Fence.wide m :=
 ⟨fun nU off cap ss W hH Be aZ=>callsIn_wide.2 (AnyM.slices_Sort_int Tryz.Nu nU off cap ss W hH Be aZ),
  fun p cap W=>callsIn_wide.2 (AnyM.slices_Sort_int_none Tryz.Nu p cap W)⟩
theorem M5 {S:aa}{kb km:Nat}{ex:Bool}{vs:List (Int × Int)}{L:List Int}(hbx:S.get kb=some (.arr 1 [[.mp km]] 0 ex)) (hmp:S.get km=some (aY ρ vs)) (vK:(vs.map (·.1)).Nodup) (hr:∀ x ∈ vs.map (·.1),0<=x/\x<=1099511627776) (hl:vs.length<=1000000000000) (hL:qF L) (hm:∀ v,v ∈ L ↔ v ∈ vs.map (·.1)) :
  aE Tryz.prog w0 373 [.fn (.func 406) [] [.pt kb 1 0 0]] S (dw ρ fc false L) S:=by
 refine⟨Tryz.call373,fun F m A g aV w hF hS hA=>?_⟩
 obtain⟨v0,TA,pQ⟩:∃ v0,aV=#[v0]/\aA g w (.fn (.func 406) [] [.pt kb 1 0 0]) v0:=by
  obtain⟨h1,h2⟩:=hA
  have h3:aV.size=1:=h1
  refine⟨aV[0],?_,h2 0 _ _ rfl (Array.getElem?_eq_getElem (by omega))⟩
  apply Array.ext (by simp [h3])
  intro i hi hj
  have:i=0:=by omega
  subst this
  rfl
 obtain⟨cs,ds,rfl,jc,dG⟩:=xq pQ
 obtain rfl:cs=#[]:=Array.eq_empty_of_size_eq_zero jc.1
 obtain⟨p,hp,hrp⟩:∃ p,ds=#[p]/\aA g w (.pt kb 1 0 0) p:=by
  obtain⟨h1,h2⟩:=dG
  have h3:ds.size=1:=h1
  refine⟨ds[0],?_,h2 0 _ _ rfl (Array.getElem?_eq_getElem (by omega))⟩
  apply Array.ext (by simp [h3])
  intro i hi hj
  have:i=0:=by omega
  subst this
  rfl
 subst hp TA
 obtain⟨rfl,aH⟩:p=.pointer (some ⟨g.ob kb,0*1+0,none⟩)/\g.al kb:=by cases hrp with|pt hk=>exact⟨rfl,hk⟩
 obtain⟨bA,blt,cs,ty,b1,b2,b3,b4,b5,b6,b7⟩:=hS.bj kb _ hbx aH
 obtain⟨x,hx,cK⟩:=(b5 0 _ rfl).2 0 _ rfl
 obtain⟨rfl,abL⟩:=kX cK
 obtain⟨mA,mlt,hmb⟩:=hS.bj km _ hmp abL
 obtain⟨entries,m1,m2,m3,m4⟩:=hmb
 rw [ρ.eq] at m2 m3
 have hlen:entries.size=(vs.map (·.1)).length:=by rw [m2,cu,List.length_map,List.length_map]
 obtain⟨D,abM,XM,uT⟩:=TW (ks:=vs.map (·.1)) Tryz.underlying3 m1 hlen (fun i z hz=>by
   rw [List.getElem?_map,Option.map_eq_some_iff] at hz
   obtain⟨q,hq,rfl⟩:=hz
   obtain⟨e,h2,h3,_⟩:=m3 i (bC q.1) (iv q.2) (by rw [cu,List.getElem?_map,hq];rfl)
   exact⟨e,h2,h3⟩) m4 vK (fun z hz=>by
   have:=hr z hz
   have e1:IntKind.i64.min=-9223372036854775808:=by decide
   have e2:IntKind.i64.max=9223372036854775807:=by decide
   simp only [Lit.wf,e1,e2,Bool.and_eq_true,decide_eq_true_eq]
   omega) (by rw [List.length_map];have:maxLen=9223372036854775807:=by decide
              omega)
 have je:w.cell? ⟨g.ob kb,0,none⟩=some (.map (some (g.ob km))):=by
  simp only [World.cell?,b1]
  simpa using hx
 have abN:SeqGives Fence.wide 2 Tryz.prog 406 #[.pointer (some ⟨g.ob kb,0,none⟩)] encZ (fun ss=>ss.Perm (intKeys D)) (Maps.size D) w :=
  AnyZI.keys_gives (ρ:=Tryz.zw) { Tryz.Uz with } Fence.wide _ trivial rfl (by omega) (g.ob kb) (g.ob km) _ D w blt je abM
 have aeq:maxLen=9223372036854775807:=by decide
 have cS:=AnyZI.sorted_in Tryz.Qw Fence.wide 5 trivial trivial trivial trivial rfl (by omega) (TX _) (enters_of Tryz.func405 (by kernel_rfl) rfl) 406 #[.pointer (some ⟨g.ob kb,0,none⟩)] trivial (enters_of Tryz.func406 (by kernel_rfl) rfl) _ (Maps.size D) (by rw [uT,List.length_map];omega) (by rw [uT,List.length_map];omega) w abN
 refine CallsIn.KZ hF ((callsIn_wide.1 cS).mono ?_)
 rintro e w' ⟨v,ss,rfl,hss,eU,KB,hb⟩
 obtain⟨hE,b_⟩:=hS.below hb
 have O5:=M4 (hss.trans XM) vK hL hm
 rw [O5] at eU
 have Kq:ss.length=L.length:=by rw [<-O5,List.length_mergeSort]
 rw [Kq] at eU
 refine⟨v,_,rfl,?_,b_,hE⟩
 rw [ij]
 rcases eU.2 with ⟨rfl,h0⟩|⟨gb,cap,cur,rfl,q1,q2,q3,q4,q5,q6⟩
 ·obtain rfl:L=[]:=List.eq_nil_of_length_eq_zero h0
  exact .nil (fun h=>by cases h)
 ·by_cases aP:L=[]
  ·subst aP
   exact .nil (fun h=>by cases h)
  ·have abO:L.map fc ≠ []:=by simpa using aP
   have nZ:∀ i (h:i < L.length),w'.cell? ⟨gb,i,none⟩=some (.int .i64 L[i]):=fun i h=>by
    simp only [World.cell?,q2]
    have h1:(cur.toList.take (L.length*1))[i]?=(L.map encZ)[i]?:=by rw [q6]
    rw [List.getElem?_take_of_lt (by omega),Array.getElem?_toList,List.getElem?_map,List.getElem?_eq_getElem h,Option.map_some] at h1
    rw [h1]
    rfl
   have:=aA.sl (g:=⟨g.ob,g.cp,g.al,fun b q=>g.fz b q\/(w.heap.size<=b/\b < w'.heap.size),g.fo⟩) (w:=w') (ex:=false) (rows:=L.map fc) (b:=gb) (o:=0) (sz:=1) (c:=cap) (val:=fun i j=>.int .i64 (L.getD i 0)) abO (fun h=>by cases h) (by simpa using q3) ?_ ?_ ?_
   ·simpa using this
   ·intro i row vm
    simp only [List.getElem?_map,Option.map_eq_some_iff] at vm
    obtain⟨x,_,rfl⟩:=vm
    rfl
   ·intro i j row a vm ha
    simp only [List.getElem?_map,Option.map_eq_some_iff] at vm
    obtain⟨x,hx,rfl⟩:=vm
    have hj:j=0:=by
     cases j with
     |zero=>rfl
     |succ j=>simp [fc] at ha
    subst hj
    obtain⟨hi,he⟩:=List.getElem?_eq_some_iff.1 hx
    refine⟨.inr ⟨q1,(Array.getElem?_eq_some_iff.1 q2).1⟩,?_⟩
    rw [Nat.mul_one,Nat.add_zero,Nat.zero_add,nZ i hi,List.getD_eq_getElem?_getD,hx,he]
    rfl
   ·intro i j row a vm ha
    simp only [List.getElem?_map,Option.map_eq_some_iff] at vm
    obtain⟨x,hx,rfl⟩:=vm
    have hj:j=0:=by
     cases j with
     |zero=>rfl
     |succ j=>simp [fc] at ha
    subst hj
    simp only [fc,List.getElem?_cons_zero,Option.some.injEq] at ha
    subst ha
    rw [List.getD_eq_getElem?_getD,hx]
    exact .v
end
end
section
set_option maxRecDepth 100000
attribute [local irreducible] av aE ad ab
def O6:CF Tryz.f292:=⟨_,by conv=>lhs;cbv⟩
theorem AP:bQ Tryz.prog 292 O6.1 Tryz.f292.ntmps:=fh Tryz.func292 O6.2 Tryz.call292
def dR:List Nat:=[0,6,1,26,7,4,5,8,17,25,27,45]
def gN (ρ:Hd):List (Nat × Option Ob):=[(0,some (gO 0 0)),(1,some (cN ρ [])),(2,some (aY ρ [])),(3,some (cO ρ [])),(4,some (cP ρ [])),(5,some (aY ρ [])),(6,some (cQ ρ []))]
theorem gNB {ρ:Hd}:iL (da (aN []) 0 0) (gS ρ ⟨[],[],⟨[],[],[]⟩⟩ []) (gN ρ) :=
 ⟨⟨0,_,rfl,rfl,.row ⟨.gr rfl,.mp rfl,.gr rfl,.mp rfl,.mp rfl,.mp rfl,trivial⟩⟩,⟨1,_,rfl,rfl,.pure (mZ _)⟩,⟨2,_,rfl,rfl,.mb (cU fl _)⟩,⟨3,_,rfl,rfl,.pure (m7 _)⟩,⟨4,_,rfl,rfl,.mp (cU fl _)⟩,⟨5,_,rfl,rfl,.mb (cU fl _)⟩,⟨6,_,rfl,rfl,.mp (cU o_ _)⟩,trivial⟩
def gP (ρ:Hd) (i j q nl ul x y:Nat) (N:aU) (vs:List (Int × Int)) (up:List Nat) (sh ls:List (Int × Int)) (kn:KN):List (Nat × Ob):=[(0,lr i j nl ul),(i,cN ρ N),(2,aY ρ vs),(j,cO ρ up),(4,cP ρ sh),(5,aY ρ ls),(6,cQ ρ kn),(q,.arr 2 [m8 (x,y)] 0 false)]
theorem TY {ρ:Hd}{i j q nl ul x y:Nat}{N:aU}{vs:List (Int × Int)}{up:List Nat}{sh ls:List (Int × Int)}{kn:KN}{T:aa}(h0:T.get 0=some (lr i j nl ul):=by rfl) (h1:T.get i=some (cN ρ N):=by rfl) (h2:T.get 2=some (aY ρ vs):=by rfl) (h3:T.get j=some (cO ρ up):=by rfl) (h4:T.get 4=some (cP ρ sh):=by rfl) (h5:T.get 5=some (aY ρ ls):=by rfl) (h6:T.get 6=some (cQ ρ kn):=by rfl) (h7:T.get q=some (.arr 2 [m8 (x,y)] 0 false):=by rfl):fu T (gP ρ i j q nl ul x y N vs up sh ls kn):=by
 intro p hp
 unfold gP at hp
 simp only [List.mem_cons,List.not_mem_nil,or_false] at hp
 rcases hp with rfl|rfl|rfl|rfl|rfl|rfl|rfl|rfl<;>assumption
theorem gPN {ρ:Hd}{i j q nl ul x y:Nat}{N:aU}{vs:List (Int × Int)}{up:List Nat}{sh ls:List (Int × Int)}{kn:KN}{T:aa}(h:fu T (gP ρ i j q nl ul x y N vs up sh ls kn)):jk (aN [(1,i),(3,j),(7,q)]) 8 T (gX ρ nl ul N vs up sh ls kn++[(7,uk ρ [(x,y)])]):=by
 have h0:T.get 0=some (lr i j nl ul):=h (0,lr i j nl ul) (by simp [gP])
 have h1:T.get i=some (cN ρ N):=h (i,cN ρ N) (by simp [gP])
 have h2:T.get 2=some (aY ρ vs):=h (2,aY ρ vs) (by simp [gP])
 have h3:T.get j=some (cO ρ up):=h (j,cO ρ up) (by simp [gP])
 have h4:T.get 4=some (cP ρ sh):=h (4,cP ρ sh) (by simp [gP])
 have h5:T.get 5=some (aY ρ ls):=h (5,aY ρ ls) (by simp [gP])
 have h6:T.get 6=some (cQ ρ kn):=h (6,cQ ρ kn) (by simp [gP])
 have h7:T.get q=some (.arr 2 [m8 (x,y)] 0 false):=h (q,.arr 2 [m8 (x,y)] 0 false) (by simp [gP])
 have e7:uk ρ [(x,y)]=.arr 2 [m8 (x,y)] 0 false:=by unfold uk;rw [ρ.eq];rfl
 rw [e7]
 exact⟨⟨_,h0,.row ⟨.gr rfl rfl,.mp rfl rfl,.gr rfl rfl,.mp rfl rfl,.mp rfl rfl,.mp rfl rfl,trivial⟩⟩,⟨_,h1,.pure (mZ _)⟩,⟨_,h2,.mb (cU fl _)⟩,⟨_,h3,.pure (m7 _)⟩,
  ⟨_,h4,.mp (cU fl _)⟩,⟨_,h5,.mb (cU fl _)⟩,⟨_,h6,.mp (cU o_ _)⟩,⟨_,h7,.pure (fun row hr a ha=>by
   obtain rfl:=List.mem_singleton.1 hr
   simp only [m8,List.mem_cons,List.not_mem_nil,or_false] at ha
   rcases ha with rfl|rfl<;>exact .v)⟩,trivial⟩
def Z6 (ρ:Hd) (a i j q nl ul:Nat) (N:aU) (vs:List (Int × Int)) (up:List Nat) (sh ls:List (Int × Int)) (kn:KN):List (Nat × Option Ob):=[(0,some (lr i j nl ul)),(i,some (cN ρ N)),(2,some (aY ρ vs)),(j,some (cO ρ up)),(4,some (cP ρ sh)),(5,some (aY ρ ls)),(6,some (cQ ρ kn)),(q,none),
 (a,none),(a+1,none),(a+2,none),(a+3,none),(a+4,none),(a+5,none),(a+6,none),(a+7,none)]
theorem abP {ρ:Hd}{a i j q nl ul:Nat}{N:aU}{vs:List (Int × Int)}{up:List Nat}{sh ls:List (Int × Int)}{kn:KN}:iL (da (aN [(1,i),(3,j),(7,q)]) 8 a) (gX ρ nl ul N vs up sh ls kn) (Z6 ρ a i j q nl ul N vs up sh ls kn) :=
 ⟨⟨0,_,rfl,rfl,.row ⟨.gr rfl,.mp rfl,.gr rfl,.mp rfl,.mp rfl,.mp rfl,trivial⟩⟩,⟨1,_,rfl,rfl,.pure (mZ _)⟩,⟨2,_,rfl,rfl,.mb (cU fl _)⟩,⟨3,_,rfl,rfl,.pure (m7 _)⟩,⟨4,_,rfl,rfl,.mp (cU fl _)⟩,⟨5,_,rfl,rfl,.mb (cU fl _)⟩,⟨6,_,rfl,rfl,.mp (cU o_ _)⟩,trivial⟩
theorem Kr {α:Type}{l:List α}{m:Nat}{x:α}(h:l[m]?=some x):l.drop m=x::l.drop (m+1):=by
 obtain⟨h1,h2⟩:=List.getElem?_eq_some_iff.1 h
 rw [List.drop_eq_getElem_cons h1,h2]
section
variable {w0:World}{ρ:Hd}
theorem ID {l r:List Tm}{b:Bool}{s':PS}{ex:Bool}{rows:List (List AV)}{cc:Int}(hl:l.length<=100000000000) (og:av Tryz.prog w0 336 [tl ρ l] (.v (.bool true))) (qX:av Tryz.prog w0 336 [tl ρ r] (.v (.bool true))) (vN:∀ x ∈ l,dP x/\iy x) (vO:∀ x ∈ r,dP x/\iy x)
  (hlen:l.length=r.length) (hB:sw (l.zip r)<=100000000000) (hA:my (l.zip r) ⟨[],[],⟨[],[],[]⟩⟩ b s') (hpo:Pure (.sl ex rows)) (hb:b=false->(ex=true/\rows=[])/\cc=13)
  (abQ:b=true->aE Tryz.prog w0 340 [.pt 0 6 0 0] (au (gS ρ s' []) 7) (.aC [.sl ex rows,iv cc]) (au [] 7)) :
  aE Tryz.prog w0 292 [tl ρ l,tl ρ r] (au [] 0) (.aC [.sl ex rows,iv cc]) (au [] 0):=by
 have nC:Pure (.aC [.sl ex rows,iv cc]):=.aC fun a ha=>by
  simp only [List.mem_cons,List.not_mem_nil,or_false] at ha
  rcases ha with rfl|rfl
  ·exact hpo
  ·exact .v
 refine bQ.jl 0 0 _ AP (by simp [Tryz.ntmps292]) rfl rfl ?_
 refine gq dR ?_
 refine ab.op rfl (ad.b9 rfl og ⟨cy _,trivial⟩) ?_
 refine gq dR ?_
 refine ab.op rfl (ad.b9 rfl qX ⟨cy _,trivial⟩) ?_
 refine gq dR ?_
 refine bK fun q1 xH=>?_
 rw [aF] at xH
 refine gq dR ?_
 refine bK fun q2 nB=>?_
 rw [aF] at nB
 refine gq dR ?_
 refine bq (fun fA=>?_) (fun fA=>?_)<;>(try simp only [bS] at fA)
 ·exfalso;omega
 refine gq dR ?_
 refine ab.op rfl (ad.pS [] (gN ρ) IB rfl trivial (.pt rfl) trivial gNB) ?_
 refine gq dR ?_
 refine bK fun q3 Kh=>?_
 rw [aF] at Kh
 refine gq dR ?_
 refine ab.iK (σ:=Int × PS × Nat × Nat) 7 9 [(7,1),(8,3)] (fun p=>[(0,tl ρ l),(1,tl ρ r),(4,.sl true []),(5,iv 0),(6,.pt 0 6 0 0),(25,iv q3),(26,iv p.1)]) []
  (fun p=>[(0,lr 7 8 p.2.2.1 p.2.2.2),(2,aY ρ p.2.1.vs),(4,cP ρ p.2.1.js.sh),(5,aY ρ p.2.1.js.ls),(6,cQ ρ []),(7,cN ρ p.2.1.N),(8,cO ρ p.2.1.js.up)])
  (fun p=>∃ m:Nat,p.1=m/\m<=l.length/\GI p.2.1/\p.2.1.N.length+sw ((l.zip r).drop m)<=100000000000/\my ((l.zip r).drop m) p.2.1 b s'/\p.2.2.1=p.2.1.N.length/\p.2.2.2=p.2.1.js.up.length) (fun p=>l.length - p.1.toNat)
  (0,⟨[],[],⟨[],[],[]⟩⟩,0,0) ⟨0,rfl,by simp,.nil,by simpa using hB,by simpa using hA,rfl,rfl⟩ rfl (by exact⟨sq,rfl,J_,rfl,rfl,rfl⟩) ?_
 rintro⟨mi,⟨N1,iW,⟨eF,iq,gL⟩⟩,n1,u1⟩ ⟨m,hm,CR,yo,aZ,zz,nE,fG⟩
 simp only at hm CR yo aZ zz nE fG
 refine gq dR ?_
 refine bq (fun dF=>?_) (fun dF=>?_)<;>(try simp only [bS] at dF)
 ·have cd:m < l.length:=by omega
  obtain⟨x,hx⟩:∃ x,l[m]?=some x:=⟨_,List.getElem?_eq_getElem cd⟩
  obtain⟨y,hy⟩:∃ y,r[m]?=some y:=⟨_,List.getElem?_eq_getElem (by omega)⟩
  have hd:=Kr (List.getElem?_zip_eq_some (z:=(x,y)) |>.2 ⟨hx,hy⟩)
  rw [hd] at aZ zz
  rw [sw] at aZ
  simp only at aZ
  obtain⟨wx,ax⟩:=vN x (List.mem_of_getElem? hx)
  obtain⟨wy,ay⟩:=vO y (List.mem_of_getElem? hy)
  obtain⟨g2,z2⟩:=yo.add wx ax
  have k1:=OO (w0:=w0) (ρ:=ρ) (gp x) _ x [] (Nat.le_refl _) yo.V yo.F wx ax yo.A (by simp only;omega)
  obtain⟨⟨⟨N2,qV,⟨kc,ny,nz⟩⟩,rx⟩,t_⟩:∃ p,p=a6 ⟨N1,iW,⟨eF,iq,gL⟩⟩ x:=⟨_,rfl⟩
  have zd:(∃ m' j,ec (a6 (a6 ⟨N1,iW,⟨eF,iq,gL⟩⟩ x).1 y).1.N m' [((a6 ⟨N1,iW,⟨eF,iq,gL⟩⟩ x).2,(a6 (a6 ⟨N1,iW,⟨eF,iq,gL⟩⟩ x).1 y).2)] (a6 (a6 ⟨N1,iW,⟨eF,iq,gL⟩⟩ x).1 y).1.js=some (false,j)/\b=false) \/
    (∃ m' j,ec (a6 (a6 ⟨N1,iW,⟨eF,iq,gL⟩⟩ x).1 y).1.N m' [((a6 ⟨N1,iW,⟨eF,iq,gL⟩⟩ x).2,(a6 (a6 ⟨N1,iW,⟨eF,iq,gL⟩⟩ x).1 y).2)] (a6 (a6 ⟨N1,iW,⟨eF,iq,gL⟩⟩ x).1 y).1.js=some (true,j)/\my ((l.zip r).drop (m+1)) ⟨(a6 (a6 ⟨N1,iW,⟨eF,iq,gL⟩⟩ x).1 y).1.N,(a6 (a6 ⟨N1,iW,⟨eF,iq,gL⟩⟩ x).1 y).1.vs,j⟩ b s'):=by
   cases zz with
   |no h=>exact .inl ⟨_,_,h,rfl⟩
   |go h k=>exact .inr ⟨_,_,h,k⟩
  rw [<-t_] at k1 g2 z2 zd
  simp only at g2 z2 zd
  obtain⟨g3,z3⟩:=g2.add wy ay
  have k2:=OO (w0:=w0) (ρ:=ρ) (gp y) _ y [] (Nat.le_refl _) g2.V g2.F wy ay g2.A (by simp only;omega)
  obtain⟨⟨⟨N3,C8,⟨yg,xB,tv⟩⟩,ry⟩,Z7⟩:∃ p,p=a6 ⟨N2,qV,⟨kc,ny,nz⟩⟩ y:=⟨_,rfl⟩
  rw [<-Z7] at k2 g3 z3 zd
  simp only at g3 z3 zd
  clear t_ Z7 zz
  obtain⟨n2,vI⟩:∃ n2,n2=N2.length:=⟨_,rfl⟩
  obtain⟨u2,gu⟩:∃ u2,u2=kc.length:=⟨_,rfl⟩
  obtain⟨n3,Ay⟩:∃ n3,n3=N3.length:=⟨_,rfl⟩
  obtain⟨u3,oe⟩:∃ u3,u3=yg.length:=⟨_,rfl⟩
  rw [<-eD nE fG.symm] at k1
  rw [<-eD vI gu.symm] at k2
  have k1':aE Tryz.prog w0 339 [.pt 0 6 0 0,tm ρ x] (au (gX ρ n1 u1 N1 iW eF iq gL []) 7) (iv (rx:Nat)) (au (Kb ρ n2 u2 N2 qV kc ny nz []) 9):=by rw [vI,gu];exact k1
  have k2':aE Tryz.prog w0 339 [.pt 0 6 0 0,tm ρ y] (au (gX ρ n2 u2 N2 qV kc ny nz []) 7) (iv (ry:Nat)) (au (Kb ρ n3 u3 N3 C8 yg xB tv []) 9):=by rw [Ay,oe];exact k2
  obtain⟨bb,m',⟨TZ,Z8,Z9⟩,hj,vE⟩:∃ bb m' j,ec N3 m' [(rx,ry)] ⟨yg,xB,tv⟩=some (bb,j)/\((bb=false/\b=false)\/(bb=true/\my ((l.zip r).drop (m+1)) ⟨N3,C8,j⟩ b s')):=by
   rcases zd with ⟨m',j,h1,h2⟩|⟨m',j,h1,h2⟩
   ·exact⟨false,m',j,h1,.inl ⟨rfl,h2⟩⟩
   ·exact⟨true,m',j,h1,.inr ⟨rfl,h2⟩⟩
  have g4:=g3.join hj
  have Z_:TZ.length=u3:=by have:=lW hj;simp only at this;omega
  have k3:=Tx (w0:=w0) (ρ:=ρ) (vs:=C8) (kn:=[]) (zY.of g3.G g3.A) (by have:=g3.V.up;simp only at this z3 z2 ⊢;omega) hj
  rw [<-eD Ay oe.symm,<-eD Ay Z_] at k3
  clear k1 k2 zd
  refine gq dR ?_
  refine ab.jI rfl (fun T=>ad.ind rfl rfl (qA (l:=l) hm hx) qB) ?_
  refine gq dR ?_
  refine ab.mJ rfl (a_.pS [(1,7),(3,8)] (gZ ρ 7 8 n1 u1 N1 iW eF iq gL []) (gW ρ 9 7 8 n2 u2 N2 qV kc ny nz []) k1' rfl ⟨.pt rfl rfl,.pure (dN x),trivial⟩ (.pure .v) uq (fun T hT=>Ka hT) OL) ?_
  refine gq dR ?_
  refine ab.jI rfl (fun T=>ad.ind rfl rfl (qA (l:=r) hm hy) qB) ?_
  refine gq dR ?_
  refine ab.mJ rfl (a_.pS [(1,16),(3,17)] (gZ ρ 16 17 n2 u2 N2 qV kc ny nz []) (gW ρ 25 16 17 n3 u3 N3 C8 yg xB tv []) k2' rfl ⟨.pt rfl rfl,.pure (dN y),trivial⟩ (.pure .v) uq (fun T hT=>Ka hT) OL) ?_
  refine ab.jI rfl (fun T=>ad.quiet rfl) ?_
  refine ab.mJ rfl (a_.WK rfl) ?_
  refine gq dR ?_
  refine ab.mJ rfl (a_.pS [(1,32),(3,33),(7,41)] (gP ρ 32 33 41 n3 u3 rx ry N3 C8 yg xB tv []) (Z6 ρ 42 32 33 41 n3 u3 N3 C8 TZ Z8 Z9 []) k3 rfl ⟨.pt rfl rfl,.gr rfl rfl,trivial⟩ (.pure .v) TY (fun T hT=>gPN hT) abP) ?_
  rcases vE with ⟨rfl,hbf⟩|⟨rfl,hk⟩
  ·obtain⟨⟨rfl,rfl⟩,rfl⟩:=hb hbf
   refine gq dR ?_
   refine ab.bO ?_
   refine gq dR ?_
   refine fq ?_
   exact⟨[],.aJ (Pure.bT nC),trivial,rfl⟩
  ·refine gq dR ?_
   refine bH (fun m2 zD=>?_)
   refine gq dR ?_
   refine ab.d_ (σ:=Int × PS × Nat × Nat) (m2,⟨N3,C8,⟨TZ,Z8,Z9⟩⟩,n3,u3) [(7,32),(8,33)] ⟨m+1,by simp only;omega,by omega,g4,by simp only at z3 z2 ⊢;omega,hk,Ay,Z_.symm⟩ ?_ (by exact⟨sq,rfl,J_,rfl,rfl,rfl⟩)
   simp only;omega
 ·have cd:m=l.length:=by omega
  rw [cd,List.drop_of_length_le (by rw [List.length_zip];omega)] at zz
  obtain⟨rfl,rfl⟩:b=true/\s'=⟨N1,iW,⟨eF,iq,gL⟩⟩:=by cases zz;exact⟨rfl,rfl⟩
  have k:=abQ rfl
  rw [<-eD nE fG.symm] at k
  refine gq dR ?_
  refine ab.bh ?_
  refine gq dR ?_
  refine ab.op rfl (ad.pS [(1,7),(3,8)] [(0,none),(7,none),(2,none),(8,none),(4,none),(5,none),(6,none),(9,none),(10,none),(11,none),(12,none),(13,none),(14,none),(15,none)] k rfl ⟨.pt rfl rfl,trivial⟩ (.pure nC) (Ka uq) trivial) ?_
  refine gq dR ?_
  refine fq ?_
  exact⟨[],.aJ (Pure.bT nC),trivial,rfl⟩
end
end
end Go.Proofs.YtgjfgekaclobaaaGreat
