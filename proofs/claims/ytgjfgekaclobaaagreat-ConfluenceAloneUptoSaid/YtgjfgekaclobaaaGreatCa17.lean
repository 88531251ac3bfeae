import Derived.Test.YtgjfgekaclobaaaGreatProg
import Derived.Test.YtgjfgekaclobaaaGreatCa16
namespace Go.Proofs.YtgjfgekaclobaaaGreat
set_option linter.unusedVariables false
set_option linter.unusedSimpArgs false
open Go.RowKit
section
set_option maxRecDepth 100000
mutual
def mT:Tm->Nat
 |⟨k,i,n,a⟩=>n.size+nc a+5
def nc:List Tm->Nat
 |[]=>0
 |x::l=>mT x+nc l
end
theorem iY:∀ l,eC mT l=nc l
 |[]=>by rw [nc];rfl
 |x::l=>by rw [nc,eC,iY l]
def mS (x:At):Nat:=x.n.size+nc x.a+3
def ow (x:Gl):Nat:=x.n.size+nc x.a+4
def DQ (x:Dc):Nat:=x.n.size+3
def rN (x:Rl):Nat:=x.n.size+eC mS x.a7+eC mS x.rem+eC ow x.guard+eC ow x.body+7
def FI (x:Pg):Nat:=eC DQ x.ds+eC rN x.rs+3
theorem ac5:∀ n,cW Tryz.prog n 79 4 ov mT:=by
 intro n
 induction n with
 |zero=>intro H enc w sp held m hm;omega
 |succ n ih =>
  intro H enc w sp held m hm cs d hl h
  obtain⟨k,xs,rfl,hx,hd,hf⟩:=cW.fields Tryz.underlying79 h
  have hb:=l9 (xs:=xs)
  rw [hx] at hb
  obtain⟨x0,b0,_,h0⟩:=cW.part (i:=0) (n:=k+1) (cW.int Tryz.underlying3) (by omega) (by kernel_rfl) (by omega) (hf 0 3 0 rfl)
  obtain⟨x1,b1,_,h1⟩:=cW.part (i:=1) (n:=k+1) (cW.int Tryz.underlying3) (by omega) (by kernel_rfl) (by omega) (hf 1 3 1 rfl)
  obtain⟨x2,b2,_,h2⟩:=cW.part (i:=2) (n:=k+1) (cW.str Tryz.underlying9) (by omega) (by kernel_rfl) (by omega) (hf 2 9 2 rfl)
  obtain⟨x3,b3,_,h3⟩:=cW.part (i:=3) (cW.slice Tryz.underlying66 (by kernel_rfl) (by decide) ih) (by omega) (by kernel_rfl) (by omega) (hf 3 66 3 rfl)
  refine⟨⟨x0,x1,x2,x3⟩,?_,by rw [sP (ρ:=.plain)];rfl,fun j a v ha hv=>?_⟩
  ·rw [hd,<-hb,mT]
   rw [iY] at b3
   simp only [List.size_toArray,List.length_cons,List.length_nil,mH,Nat.reduceAdd] at *
   omega
  ·rw [sP (ρ:=.plain)] at ha
   match j with
   |0=>exact h0 0 a v ha hv
   |1=>exact h1 0 a v ha hv
   |2=>exact h2 0 a v ha hv
   |3=>exact h3 0 a v ha hv
   |j+4=>cases ha
theorem T1 (n:Nat):cW Tryz.prog n 66 1 (fun l=>[tl .plain l]) (fun l=>nc l+1):=by
 have h:=(cW.slice Tryz.underlying66 (by kernel_rfl) (by decide) (ac5 n)).less (Nat.le_succ n)
 simp only [iY] at h
 exact h
theorem ac6 (n:Nat):cW Tryz.prog n 81 2 (atR .plain) mS:=by
 intro H enc w sp held m hm cs d hl h
 obtain⟨k,xs,rfl,hx,hd,hf⟩:=cW.fields Tryz.underlying81 h
 have hb:=l9 (xs:=xs)
 rw [hx] at hb
 obtain⟨x0,b0,_,h0⟩:=cW.part (i:=0) (n:=k+1) (cW.str Tryz.underlying9) (by omega) (by kernel_rfl) (by omega) (hf 0 9 0 rfl)
 obtain⟨x1,b1,_,h1⟩:=cW.part (i:=1) (n:=k+1) (T1 (k+1)) (by omega) (by kernel_rfl) (by omega) (hf 1 66 1 rfl)
 refine⟨⟨x0,x1⟩,?_,rfl,fun j a v ha hv=>?_⟩
 ·rw [hd,<-hb]
  simp only [List.size_toArray,List.length_cons,List.length_nil,mH,Nat.reduceAdd,mS,mS] at *
  omega
 ·match j with
  |0=>exact h0 0 a v ha hv
  |1=>exact h1 0 a v ha hv
  |j+2=>cases ha
theorem Om (n:Nat):cW Tryz.prog n 56 1 (fun l=>[dh .plain l]) (fun l=>eC mS l+1):=(cW.slice Tryz.underlying56 (by kernel_rfl) (by decide) (ac6 n)).less (Nat.le_succ n)
theorem ac7 (n:Nat):cW Tryz.prog n 68 3 (sQ .plain) ow:=by
 intro H enc w sp held m hm cs d hl h
 obtain⟨k,xs,rfl,hx,hd,hf⟩:=cW.fields Tryz.underlying68 h
 have hb:=l9 (xs:=xs)
 rw [hx] at hb
 obtain⟨x0,b0,_,h0⟩:=cW.part (i:=0) (n:=k+1) (cW.int Tryz.underlying3) (by omega) (by kernel_rfl) (by omega) (hf 0 3 0 rfl)
 obtain⟨x1,b1,_,h1⟩:=cW.part (i:=1) (n:=k+1) (cW.str Tryz.underlying9) (by omega) (by kernel_rfl) (by omega) (hf 1 9 1 rfl)
 obtain⟨x2,b2,_,h2⟩:=cW.part (i:=2) (n:=k+1) (T1 (k+1)) (by omega) (by kernel_rfl) (by omega) (hf 2 66 2 rfl)
 refine⟨⟨x0,x1,x2⟩,?_,rfl,fun j a v ha hv=>?_⟩
 ·rw [hd,<-hb]
  simp only [List.size_toArray,List.length_cons,List.length_nil,mH,Nat.reduceAdd,ow,mS] at *
  omega
 ·match j with
  |0=>exact h0 0 a v ha hv
  |1=>exact h1 0 a v ha hv
  |2=>exact h2 0 a v ha hv
  |j+3=>cases ha
theorem On (n:Nat):cW Tryz.prog n 26 1 (fun l=>[eP .plain l]) (fun l=>eC ow l+1):=(cW.slice Tryz.underlying26 (by kernel_rfl) (by decide) (ac7 n)).less (Nat.le_succ n)
theorem ac8 (n:Nat):cW Tryz.prog n 77 2 (Og) DQ:=by
 intro H enc w sp held m hm cs d hl h
 obtain⟨k,xs,rfl,hx,hd,hf⟩:=cW.fields Tryz.underlying77 h
 have hb:=l9 (xs:=xs)
 rw [hx] at hb
 obtain⟨x0,b0,_,h0⟩:=cW.part (i:=0) (n:=k+1) (cW.str Tryz.underlying9) (by omega) (by kernel_rfl) (by omega) (hf 0 9 0 rfl)
 obtain⟨x1,b1,_,h1⟩:=cW.part (i:=1) (n:=k+1) (cW.int Tryz.underlying3) (by omega) (by kernel_rfl) (by omega) (hf 1 3 1 rfl)
 refine⟨⟨x0,x1⟩,?_,rfl,fun j a v ha hv=>?_⟩
 ·rw [hd,<-hb]
  simp only [List.size_toArray,List.length_cons,List.length_nil,mH,Nat.reduceAdd,DQ,mS] at *
  omega
 ·match j with
  |0=>exact h0 0 a v ha hv
  |1=>exact h1 0 a v ha hv
  |j+2=>cases ha
theorem ZE (n:Nat):cW Tryz.prog n 22 1 (fun l=>[gI .plain l]) (fun l=>eC DQ l+1):=(cW.slice Tryz.underlying22 (by kernel_rfl) (by decide) (ac8 n)).less (Nat.le_succ n)
theorem ac9 (n:Nat):cW Tryz.prog n 58 6 (ln .plain) rN:=by
 intro H enc w sp held m hm cs d hl h
 obtain⟨k,xs,rfl,hx,hd,hf⟩:=cW.fields Tryz.underlying58 h
 have hb:=l9 (xs:=xs)
 rw [hx] at hb
 obtain⟨x0,b0,_,h0⟩:=cW.part (i:=0) (n:=k+1) (cW.str Tryz.underlying9) (by omega) (by kernel_rfl) (by omega) (hf 0 9 0 rfl)
 obtain⟨x1,b1,_,h1⟩:=cW.part (i:=1) (n:=k+1) (Om (k+1)) (by omega) (by kernel_rfl) (by omega) (hf 1 56 1 rfl)
 obtain⟨x2,b2,_,h2⟩:=cW.part (i:=2) (n:=k+1) (Om (k+1)) (by omega) (by kernel_rfl) (by omega) (hf 2 56 2 rfl)
 obtain⟨x3,b3,_,h3⟩:=cW.part (i:=3) (n:=k+1) (On (k+1)) (by omega) (by kernel_rfl) (by omega) (hf 3 26 3 rfl)
 obtain⟨x4,b4,_,h4⟩:=cW.part (i:=4) (n:=k+1) (On (k+1)) (by omega) (by kernel_rfl) (by omega) (hf 4 26 4 rfl)
 obtain⟨x5,b5,_,h5⟩:=cW.part (i:=5) (n:=k+1) (cW.int Tryz.underlying3) (by omega) (by kernel_rfl) (by omega) (hf 5 3 5 rfl)
 refine⟨⟨x0,x1,x2,x3,x4,x5⟩,?_,rfl,fun j a v ha hv=>?_⟩
 ·rw [hd,<-hb]
  simp only [List.size_toArray,List.length_cons,List.length_nil,mH,Nat.reduceAdd,rN,mS] at *
  omega
 ·match j with
  |0=>exact h0 0 a v ha hv
  |1=>exact h1 0 a v ha hv
  |2=>exact h2 0 a v ha hv
  |3=>exact h3 0 a v ha hv
  |4=>exact h4 0 a v ha hv
  |5=>exact h5 0 a v ha hv
  |j+6=>cases ha
theorem ZF (n:Nat):cW Tryz.prog n 23 1 (fun l=>[TW .plain l]) (fun l=>eC rN l+1):=(cW.slice Tryz.underlying23 (by kernel_rfl) (by decide) (ac9 n)).less (Nat.le_succ n)
theorem ac_ (n:Nat):cW Tryz.prog n 25 2 (mR .plain) FI:=by
 intro H enc w sp held m hm cs d hl h
 obtain⟨k,xs,rfl,hx,hd,hf⟩:=cW.fields Tryz.underlying25 h
 have hb:=l9 (xs:=xs)
 rw [hx] at hb
 obtain⟨x0,b0,_,h0⟩:=cW.part (i:=0) (n:=k+1) (ZE (k+1)) (by omega) (by kernel_rfl) (by omega) (hf 0 22 0 rfl)
 obtain⟨x1,b1,_,h1⟩:=cW.part (i:=1) (n:=k+1) (ZF (k+1)) (by omega) (by kernel_rfl) (by omega) (hf 1 23 1 rfl)
 refine⟨⟨x0,x1⟩,?_,rfl,fun j a v ha hv=>?_⟩
 ·rw [hd,<-hb]
  simp only [List.size_toArray,List.length_cons,List.length_nil,mH,Nat.reduceAdd,FI,mS] at *
  omega
 ·match j with
  |0=>exact h0 0 a v ha hv
  |1=>exact h1 0 a v ha hv
  |j+2=>cases ha
theorem JW {P:Program}{w:World}{r:Reach}{b0:Nat}{t:TypeId}{v:Value}{fs:Array Field}(ht:P.underlying t=some (.struct fs)) (h:Value.okWide P w r b0 t v):∃ cs,v=.agg cs/\cs.size=P.cellsOf t:=by
 unfold Value.okWide at h
 rw [ht] at h
 obtain⟨cs,e,hs,_⟩:=h
 exact⟨cs,e,hs⟩
section
variable {w:World}{r:Reach}{b0:Nat}{v:Value}{H:Type}{enc:TypeId × Value->H}{sp:Nat->Bool}{held:Bool}{d:DataW H}{ps:List MemPlace}
theorem ZG (qh:Value.okWide Tryz.prog w r b0 25 v) (h:DataW.Trod enc Tryz.prog w 0 sp held 25 v d ps):∃ x:Pg,FI x<=Rows.uptoBulk d/\aH (g0 w) w (pg .plain x) v:=by
 obtain⟨fuel,hf⟩:=h
 obtain⟨cs,rfl,bh⟩:=JW Tryz.underlying25 qh
 have hs:cs.size=2:=bh.trans (by kernel_rfl)
 obtain⟨x,h1,_,h2⟩:=ac_ (fuel+1) H enc w sp held fuel (by omega) _ _ (by rw [Array.length_toList];exact hs) hf
 refine⟨x,h1,.agg (by rw [hs];rfl) fun i a y ha hy=>h2 i a y ha ?_⟩
 rw [<-hy]
 exact Array.getElem?_toList
theorem XO (h:DataW.Trod enc Tryz.prog w 0 sp held 3 v d ps) (qh:Value.okWide Tryz.prog w r b0 3 v):∃ x:Int,aH (g0 w) w (iv x) v:=by
 unfold Value.okWide at qh
 rw [Tryz.underlying3] at qh
 cases v with
 |int k z=>obtain⟨rfl,_⟩:=qh;exact⟨z,.v⟩
 |_=>cases qh
end
end
section
set_option maxRecDepth 100000
attribute [local irreducible] ah aK ae aa
def ZH:Nat:=1099511627776
mutual
def Tm.ok:Tm->Prop
 |⟨k,i,n,a⟩=>a.length<=ZH/\n.size<=ZH/\mc a
def mc:List Tm->Prop
 |[]=>True
 |x::l=>x.ok/\mc l
end
theorem mc.mem:∀ {l:List Tm},mc l->∀ x ∈ l,x.ok
 |[],_,x,h=>by cases h
 |y::l,hk,x,h=>by
  rw [mc] at hk
  rcases List.mem_cons.1 h with rfl|h
  ·exact hk.1
  ·exact hk.2.mem x h
theorem Tm.ok.out {t:Tm}(h:t.ok):t.a.length<=1099511627776/\t.n.size<=1099511627776/\mc t.a:=by
 obtain⟨k,i,n,a⟩:=t
 rw [Tm.ok] at h
 exact h
section
variable {w0:World}{ρ:Hd}
set_option maxRecDepth 100000
theorem oU {S:ad}{a b:Int}(h:a=b):bp S (.v (.int .i64 a)) (iv b):=by subst h;exact bp.refl _
theorem eQ {S:ad}{a b:Bool}(h:a=b):bp S (.v (.bool a)) (.v (.bool b)):=by subst h;exact bp.refl _
end
end
section
set_option maxRecDepth 100000
attribute [local irreducible] ah aK ae aa
theorem cd {T:Type}{l:List T}{k:Nat}(h:k < l.length):∃ x,l[k]?=some x/\l.drop k=x::l.drop (k+1):=⟨l[k],List.getElem?_eq_getElem h,List.drop_eq_getElem_cons h⟩
theorem g8 {T:Type}{l:List T}{k:Nat}{x:T}(h:l[k]?=some x):x ∈ l:=List.mem_of_getElem? h
end
section
set_option maxRecDepth 100000
attribute [local irreducible] ah aK ae aa
section
variable {w0:World}{ρ:Hd}
def At.ok (x:At):Prop:=x.a.length<=1099511627776/\mc x.a
def Gl.ok (x:Gl):Prop:=x.a.length<=1099511627776/\mc x.a
end
end
section
def fL:Nat->List Nat->Nat->Option (List Nat × Nat)
 |0,_,_=>none
 |m+1,up,k=>match up[k]? with
  |none=>none
  |some p=>if p=k then some (up,k) else match up[p]? with
   |none=>none
   |some q=>fL m (up.set k q) q
theorem Bj:∀ {m:Nat}{up:List Nat}{k:Nat}{r:List Nat × Nat},fL m up k=some r->fL (m+1) up k=some r
 |0,_,_,_,h=>by cases h
 |m+1,up,k,r,h=>by
  rw [fL] at h
  rw [fL]
  split at h
  ·cases h
  ·rename_i p hp
   split at h
   ·rename_i e;simp only [hp,if_pos e];exact h
   ·rename_i e
    split at h
    ·cases h
    ·rename_i q hq
     simp only [hp,if_neg e,hq]
     exact Bj h
theorem FK {m m':Nat}{up:List Nat}{k:Nat}{r:List Nat × Nat}(h:fL m up k=some r) (hm:m<=m'):fL m' up k=some r:=by
 induction hm with
 |refl=>exact h
 |step _ ih=>exact Bj ih
theorem Oo {m m':Nat}{up:List Nat}{k:Nat}{r r':List Nat × Nat}(h:fL m up k=some r) (h':fL m' up k=some r'):r=r':=by
 have h1:=FK h (Nat.le_max_left m m')
 have h2:=FK h' (Nat.le_max_right m m')
 rw [h1] at h2
 exact oJ_ h2
open Classical in
noncomputable def gQ (up:List Nat) (k:Nat):Option (List Nat × Nat):=if h:∃ p:Nat × (List Nat × Nat),fL p.1 up k=some p.2 then some h.choose.2 else none
theorem QK {m:Nat}{up:List Nat}{k:Nat}{r:List Nat × Nat}(h:fL m up k=some r):gQ up k=some r:=by
 have hx:∃ p:Nat × (List Nat × Nat),fL p.1 up k=some p.2:=⟨(m,r),h⟩
 unfold gQ
 rw [dif_pos hx,Oo hx.choose_spec h]
theorem vd {up:List Nat}{k:Nat}{r:List Nat × Nat}(h:gQ up k=some r):∃ m,fL m up k=some r:=by
 unfold gQ at h
 split at h
 ·rename_i hx
  obtain rfl:=oJ_ h
  exact⟨_,hx.choose_spec⟩
 ·cases h
def gJ (up:List Nat) (i:Nat):Nat:=(up[i]?).getD i
structure UF (up:List Nat) (c h:Nat->Nat):Prop where
 lt:∀ i,i < up.length->gJ up i < up.length
 rt:∀ i,i < up.length->gJ up (c i)=c i/\c i < up.length
 st:∀ i,i < up.length->c (gJ up i)=c i
 fx:∀ i,i < up.length->gJ up i=i->c i=i
 ht:∀ i,i < up.length->gJ up i ≠ i->h (gJ up i) < h i
theorem FL {up:List Nat}{i:Nat}(hi:i < up.length):up[i]?=some (gJ up i):=by unfold gJ;rw [List.getElem?_eq_getElem hi];rfl
theorem lE {up:List Nat}{k v:Nat}(hk:k < up.length) (i:Nat):gJ (up.set k v) i=if i=k then v else gJ up i:=by
 unfold gJ
 rw [List.getElem?_set]
 by_cases e:k=i
 ·subst e;simp [hk]
 ·rw [if_neg e,if_neg (Ne.symm e)]
theorem UF.cc {up:List Nat}{c h:Nat->Nat}(hU:UF up c h) {i:Nat}(hi:i < up.length):c (c i)=c i:=hU.fx _ (hU.rt i hi).2 (hU.rt i hi).1
theorem UF.half {up:List Nat}{c h:Nat->Nat}(hU:UF up c h) {k:Nat}(hk:k < up.length):UF (up.set k (gJ up (gJ up k))) c h:=by
 have h1:=hU.lt k hk
 have h2:=hU.lt _ h1
 refine⟨fun i hi=>?_,fun i hi=>?_,fun i hi=>?_,fun i hi e=>?_,fun i hi e=>?_⟩
 all_goals rw [List.length_set] at hi
 ·rw [lE hk,List.length_set]
  split
  ·exact h2
  ·exact hU.lt i hi
 ·rw [lE hk,List.length_set]
  obtain⟨r1,r2⟩:=hU.rt i hi
  refine⟨?_,r2⟩
  split
  ·rename_i e
   rw [<-e,r1,r1]
  ·exact r1
 ·rw [lE hk]
  split
  ·rename_i e
   subst e
   rw [hU.st _ h1,hU.st _ hi]
  ·exact hU.st i hi
 ·rw [lE hk] at e
  split at e
  ·rename_i e'
   subst e'
   by_cases e1:gJ up i=i
   ·exact hU.fx i hi e1
   ·have h3:=hU.ht i hi e1
    by_cases e2:gJ up (gJ up i)=gJ up i
    ·exact absurd (e2.symm.trans e) e1
    ·have h4:=hU.ht _ h1 e2
     rw [e] at h4
     omega
  ·exact hU.fx i hi e
 ·rw [lE hk] at e ⊢
  split at e
  ·rename_i e'
   rw [if_pos e']
   subst e'
   by_cases e1:gJ up i=i
   ·exact absurd (by rw [e1,e1]) e
   ·have h3:=hU.ht i hi e1
    by_cases e2:gJ up (gJ up i)=gJ up i
    ·rw [e2];exact h3
    ·have h4:=hU.ht _ h1 e2
     omega
  ·rename_i e'
   rw [if_neg e']
   exact hU.ht i hi e
theorem UF.root {c h:Nat->Nat}:∀ (H:Nat) {up:List Nat}{k:Nat},UF up c h->k < up.length->h k < H->∃ m de,fL m up k=some (de,c k)/\UF de c h/\de.length=up.length
 |0,_,_,_,_,hH=>by omega
 |H+1,up,k,hU,hk,hH=>by
  by_cases e:gJ up k=k
  ·refine⟨1,up,?_,hU,rfl⟩
   rw [fL,FL hk]
   simp only [if_pos e,hU.fx k hk e]
  ·have h1:=hU.lt k hk
   have h2:=hU.lt _ h1
   have h3:=hU.ht k hk e
   have h4:h (gJ up (gJ up k)) < H:=by
    by_cases e2:gJ up (gJ up k)=gJ up k
    ·rw [e2];omega
    ·have:=hU.ht _ h1 e2;omega
   obtain⟨m,de,h5,h6,h7⟩:=UF.root H (hU.half hk) (by rw [List.length_set];exact h2) h4
   refine⟨m+1,de,?_,h6,by rw [h7,List.length_set]⟩
   rw [fL,FL hk]
   simp only [if_neg e,FL h1,h5,hU.st _ h1,hU.st _ hk]
theorem UF.gQ {up:List Nat}{c h:Nat->Nat}(hU:UF up c h) {k:Nat}(hk:k < up.length):∃ de,gQ up k=some (de,c k)/\UF de c h/\de.length=up.length:=by
 obtain⟨m,de,h1,h2,h3⟩:=UF.root _ hU hk (Nat.lt_succ_self _)
 exact⟨de,QK h1,h2,h3⟩
theorem UF.merge {up:List Nat}{c h:Nat->Nat}(hU:UF up c h) {a b:Nat}(ha:a < up.length) (hb:b < up.length) (ca:c a=a) (cb:c b=b) (nf:a ≠ b):UF (up.set b a) (fD c a b) (fun i=>if c i=b then h i+h a+1 else h i):=by
 have ra:gJ up a=a:=by have:=(hU.rt a ha).1;rwa [ca] at this
 refine⟨fun i hi=>?_,fun i hi=>?_,fun i hi=>?_,fun i hi e=>?_,fun i hi e=>?_⟩
 all_goals rw [List.length_set] at hi
 ·rw [lE hb,List.length_set]
  split
  ·exact ha
  ·exact hU.lt i hi
 ·rw [lE hb,List.length_set]
  by_cases e:c i=b
  ·rw [show fD c a b i=a from if_pos e,if_neg nf]
   exact⟨ra,ha⟩
  ·rw [show fD c a b i=c i from if_neg e,if_neg e]
   exact hU.rt i hi
 ·rw [lE hb]
  unfold fD
  split
  ·rename_i e
   subst e
   rw [ca,if_neg nf,if_pos cb]
  ·rw [hU.st i hi]
 ·rw [lE hb] at e
  unfold fD
  split at e
  ·rename_i e'
   exact absurd (e.trans e') nf
  ·rename_i e'
   have:=hU.fx i hi e
   rw [this,if_neg e']
 ·rw [lE hb] at e ⊢
  split at e
  ·rename_i e'
   subst e'
   have e1:(if i=i then a else gJ up i)=a:=if_pos rfl
   rw [e1]
   show (if c a=i then _ else h a) < (if c i=i then h i+h a+1 else _)
   rw [ca,if_neg nf,if_pos cb]
   omega
  ·rename_i e'
   have:=hU.ht i hi e
   simp only [if_neg e',hU.st i hi]
   split<;>omega
def b8 (sh:List (Int × Int)) (C:Nat):Option Nat:=(aD sh (C:Int)).map Int.toNat
def ox (s t:Tm):Bool:=s.k == t.k && s.i == t.i && decide (s.n.toList=t.n.toList) && decide (s.a.length=t.a.length)
def jg (sh:List (Int × Int)) (a b:Nat):List (Int × Int):=match aD sh (b:Int) with
 |some k=>(match aD sh (a:Int) with|some _=>sh|none=>eV sh a k)
 |none=>sh
def iL (ls:List (Int × Int)) (a b:Nat):List (Int × Int):=match aD ls (b:Int) with
 |some v=>(match aD ls (a:Int) with|some w=>if v < w then eV ls a v else ls|none=>eV ls a v)
 |none=>ls
structure JS where
 up:List Nat
 sh:List (Int × Int)
 ls:List (Int × Int)
noncomputable def fl (N:bj):Nat->List (Nat × Nat)->JS->Option (Bool × JS)
 |0,_,_=>none
 |m+1,ps,s=>if 1099511627776 < ps.length then none else match ps.getLast? with
  |none=>some (true,s)
  |some p=>match gQ s.up p.1 with
   |none=>none
   |some (u1,a)=>match gQ u1 p.2 with
    |none=>none
    |some (u2,b)=>if a=b then fl N m ps.dropLast ⟨u2,s.sh,s.ls⟩ else
     match aD s.sh (a:Int),aD s.sh (b:Int) with
     |some i,some k=>match N[i.toNat]?,N[k.toNat]? with
      |some (t,l),some (t',l')=>if 0<=i/\0<=k then (if ox t t' then (if l.length=l'.length then fl N m (ps.dropLast++l.zip l') ⟨u2.set b a,jg s.sh a b,iL s.ls a b⟩ else none) else some (false,⟨u2,s.sh,s.ls⟩)) else none
      |_,_=>none
     |_,_=>fl N m ps.dropLast ⟨u2.set b a,jg s.sh a b,iL s.ls a b⟩
def oy (N:bj) (c:Nat->Nat) (C:Nat):Option Int->Prop
 |none=>∀ j,j < N.length->c j=C->(tn N j).k ≠ 1
 |some v=>(∃ j,j < N.length/\c j=C/\(tn N j).k=1/\(tn N j).i=v)/\∀ j,j < N.length->c j=C->(tn N j).k=1->v<=(tn N j).i
structure m8 (E:List (Tm × Tm)) (N:bj) (D:List (Nat × Nat)) (c:Nat->Nat) (ps:List (Nat × Nat)) (s:JS):Prop where
 gi:jz E N D c ps
 uf:∃ h,UF s.up c h
 len:s.up.length=N.length
 pos:∀ C i,aD s.sh C=some i->0<=i
 tW:∀ C,C < N.length->c C=C->gz N c C (b8 s.sh C)
 cE:∀ C,C < N.length->c C=C->oy N c C (aD s.ls (C:Int))
 Oq:∀ C:Nat,N.length<=C->aD s.sh (C:Int)=none
 T3:∀ C:Nat,N.length<=C->aD s.ls (C:Int)=none
def jH (c:Nat->Nat):Nat->Nat
 |0=>0
 |n+1=>jH c n+if c n=n then 1 else 0
theorem DR {c d:Nat->Nat}(h:∀ i,d i=i->c i=i):∀ n,jH d n<=jH c n
 |0=>Nat.le_refl _
 |n+1=>by
  have:=DR h n
  rw [jH,jH]
  by_cases e:d n=n
  ·rw [if_pos e,if_pos (h n e)];omega
  ·rw [if_neg e];omega
theorem DS {c d:Nat->Nat}(h:∀ i,d i=i->c i=i) {b:Nat}(hb:c b=b) (wY:d b ≠ b):∀ n,b < n->jH d n < jH c n
 |0,h0=>by omega
 |n+1,h0=>by
  rw [jH,jH]
  by_cases e:b=n
  ·subst e
   have:=DR h b
   rw [if_pos hb,if_neg wY]
   omega
  ·have:=DS h hb wY n (by omega)
   by_cases e:d n=n
   ·rw [if_pos e,if_pos (h n e)];omega
   ·rw [if_neg e];omega
theorem Bl (c:Nat->Nat):∀ n,jH c n<=n
 |0=>Nat.le_refl _
 |n+1=>by
  have:=Bl c n
  rw [jH]
  split<;>omega
theorem Bm {s t:Tm}:ox s t=true ↔ alike s t:=by
 have hb:s.n.toList=t.n.toList ↔ s.n=t.n:=Oh
 unfold ox alike
 simp only [Bool.and_eq_true,beq_iff_eq,decide_eq_true_eq,hb,and_assoc]
theorem FM {c:Nat->Nat}{a b i:Nat}(nf:a ≠ b) (ca:c a=a):fD c a b i=i->c i=i:=by
 unfold fD
 split
 ·rename_i e
  intro e2
  subst e2
  exact ca
 ·exact id
theorem pe {N:bj}{i:Nat}(hi:i < N.length):N[i]?=some (tn N i,ks N i):=by
 unfold tn ks
 rw [List.getElem?_eq_getElem hi]
 rfl
def Ot:Option Nat->Option Nat->Option Nat
 |some i,_=>some i
 |none,y=>y
def CD:Option Int->Option Int->Option Int
 |some w,some v=>some (if v < w then v else w)
 |some w,none=>some w
 |none,x=>x
theorem ZI {sh:List (Int × Int)}{a b C:Nat}(hC:C ≠ b) (nf:a ≠ b):b8 (jg sh a b) C=if C=a then Ot (b8 sh a) (b8 sh b) else b8 sh C:=by
 unfold b8 jg
 by_cases e:C=a
 ·subst e
  rw [if_pos rfl]
  cases hb:aD sh (b:Int) with
  |none=>cases ha:aD sh (C:Int)<;>simp [ha,Ot]
  |some k =>
   cases ha:aD sh (C:Int) with
   |none=>simp [bZ,Ot]
   |some i=>simp [ha,Ot]
 ·rw [if_neg e]
  cases hb:aD sh (b:Int) with
  |none=>rfl
  |some k =>
   cases ha:aD sh (a:Int) with
   |none=>simp only [bZ];rw [if_neg (by omega)]
   |some i=>rfl
theorem ada {ls:List (Int × Int)}{a b C:Nat}(hC:C ≠ b) (nf:a ≠ b):aD (iL ls a b) (C:Int)=if C=a then CD (aD ls (a:Int)) (aD ls (b:Int)) else aD ls (C:Int):=by
 unfold iL
 by_cases e:C=a
 ·subst e
  rw [if_pos rfl]
  cases hb:aD ls (b:Int) with
  |none=>cases ha:aD ls (C:Int)<;>simp [ha,CD]
  |some k =>
   cases ha:aD ls (C:Int) with
   |none=>simp [bZ,CD]
   |some i =>
    simp only [CD]
    split
    ·rw [bZ,if_pos rfl]
    ·exact ha
 ·rw [if_neg e]
  cases hb:aD ls (b:Int) with
  |none=>rfl
  |some k =>
   cases ha:aD ls (a:Int) with
   |none=>simp only [bZ];rw [if_neg (by omega)]
   |some i =>
    simp only
    split
    ·rw [bZ,if_neg (by omega)]
    ·rfl
theorem gz.merge {N:bj}{c:Nat->Nat}{a b:Nat}{x y:Option Nat}(hx:gz N c a x) (hy:gz N c b y) (nf:a ≠ b):gz N (fD c a b) a (Ot x y):=by
 cases x with
 |some i =>
  obtain⟨h1,h2,h3⟩:=hx
  refine⟨h1,?_,h3⟩
  unfold fD
  rw [h2,if_neg nf]
 |none =>
  cases y with
  |some i =>
   obtain⟨h1,h2,h3⟩:=hy
   refine⟨h1,?_,h3⟩
   unfold fD
   rw [h2,if_pos rfl]
  |none =>
   intro i hi e
   unfold fD at e
   split at e
   ·rename_i e';exact hy i hi e'
   ·exact hx i hi e
theorem oy.merge {N:bj}{c:Nat->Nat}{a b:Nat}{x y:Option Int}(hx:oy N c a x) (hy:oy N c b y) (nf:a ≠ b):oy N (fD c a b) a (CD x y):=by
 have ma:∀ j,c j=a->fD c a b j=a:=fun j e=>by unfold fD;rw [e,if_neg nf]
 have mb:∀ j,c j=b->fD c a b j=a:=fun j e=>by unfold fD;rw [e,if_pos rfl]
 have mi:∀ j,fD c a b j=a->c j=a\/c j=b:=fun j e=>by
  unfold fD at e
  split at e
  ·exact .inr (by assumption)
  ·exact .inl e
 cases x with
 |some w =>
  obtain⟨⟨j,j1,j2,j3,j4⟩,hw⟩:=hx
  cases y with
  |some v =>
   obtain⟨⟨i,i1,i2,i3,i4⟩,hv⟩:=hy
   simp only [CD]
   split
   ·refine⟨⟨i,i1,mb i i2,i3,i4⟩,fun q hq e hk=>?_⟩
    rcases mi q e with e|e
    ·have:=hw q hq e hk;omega
    ·exact hv q hq e hk
   ·refine⟨⟨j,j1,ma j j2,j3,j4⟩,fun q hq e hk=>?_⟩
    rcases mi q e with e|e
    ·exact hw q hq e hk
    ·have:=hv q hq e hk;omega
  |none =>
   refine⟨⟨j,j1,ma j j2,j3,j4⟩,fun q hq e hk=>?_⟩
   rcases mi q e with e|e
   ·exact hw q hq e hk
   ·exact absurd hk (hy q hq e)
 |none =>
  cases y with
  |some v =>
   obtain⟨⟨i,i1,i2,i3,i4⟩,hv⟩:=hy
   refine⟨⟨i,i1,mb i i2,i3,i4⟩,fun q hq e hk=>?_⟩
   rcases mi q e with e|e
   ·exact absurd hk (hx q hq e)
   ·exact hv q hq e hk
  |none =>
   intro q hq e
   rcases mi q e with e|e
   ·exact hx q hq e
   ·exact hy q hq e
theorem wZ {c:Nat->Nat}{a b C:Nat}(hC:C ≠ a) (hb:C ≠ b) (j:Nat):fD c a b j=C ↔ c j=C:=by
 unfold fD
 split
 ·rename_i e
  exact⟨fun h=>absurd h.symm hC,fun h=>absurd (h.symm.trans e) hb⟩
 ·exact Iff.rfl
theorem gz.other {N:bj}{c:Nat->Nat}{a b C:Nat}(hC:C ≠ a) (hb:C ≠ b) {x:Option Nat}(h:gz N c C x):gz N (fD c a b) C x:=by
 cases x with
 |some i=>exact⟨h.1,(wZ hC hb i).2 h.2.1,h.2.2⟩
 |none=>exact fun i hi e=>h i hi ((wZ hC hb i).1 e)
theorem oy.other {N:bj}{c:Nat->Nat}{a b C:Nat}(hC:C ≠ a) (hb:C ≠ b) {x:Option Int}(h:oy N c C x):oy N (fD c a b) C x:=by
 cases x with
 |some v =>
  obtain⟨⟨j,j1,j2,j3,j4⟩,hw⟩:=h
  exact⟨⟨j,j1,(wZ hC hb j).2 j2,j3,j4⟩,fun q hq e=>hw q hq ((wZ hC hb q).1 e)⟩
 |none=>exact fun i hi e=>h i hi ((wZ hC hb i).1 e)
section
variable {E:List (Tm × Tm)}{N:bj}{D:List (Nat × Nat)}{c:Nat->Nat}{ps:List (Nat × Nat)}{s:JS}
theorem m8.merge {x y a b:Nat}{P':List (Nat × Nat)}(h:m8 E N D c (ps++[(x,y)]) s) (ea:a=c x) (eb:b=c y) (nf:a ≠ b) (hP:∀ p,p ∈ P' ↔ p ∈ l5 N (b8 s.sh a) (b8 s.sh b)++ps)
  (aO:∀ i j,b8 s.sh a=some i->b8 s.sh b=some j->alike (tn N i) (tn N j)) {u:List Nat}(hu:∃ h,UF u c h) (hl:u.length=N.length):m8 E N D (fD c a b) P' ⟨u.set b a,jg s.sh a b,iL s.ls a b⟩:=by
 obtain⟨hx,hy,_⟩:=h.gi.lU (x,y) (by simp)
 simp only at hx hy
 obtain⟨hh,hU⟩:=hu
 have la:a < N.length:=by rw [ea,<-hl];exact (hU.rt x (by omega)).2
 have lb:b < N.length:=by rw [eb,<-hl];exact (hU.rt y (by omega)).2
 have ca:c a=a:=by rw [ea];exact hU.cc (by omega)
 have cb:c b=b:=by rw [eb];exact hU.cc (by omega)
 have sa:=h.tW a la ca
 have sb:=h.tW b lb cb
 have g1:jz E N D c ((x,y)::ps):=h.gi.perm fun p=>by simp [or_comm]
 have g2:=g1.merge (sa:=b8 s.sh a) (sb:=b8 s.sh b) (by rw [<-ea];exact sa) (by rw [<-eb];exact sb) aO
 rw [<-ea,<-eb] at g2
 refine⟨g2.perm hP,⟨_,hU.merge (by omega) (by omega) ca cb nf⟩,by rw [List.length_set];exact hl,fun C i hi=>?_,fun C hC e=>?_,fun C hC e=>?_,fun C hC=>?_,fun C hC=>?_⟩
 ·unfold jg at hi
  cases e1:aD s.sh (b:Int) with
  |none=>rw [e1] at hi;exact h.pos C i hi
  |some k =>
   rw [e1] at hi
   cases e2:aD s.sh (a:Int) with
   |some j=>rw [e2] at hi;exact h.pos C i hi
   |none =>
    rw [e2] at hi
    simp only [bZ] at hi
    split at hi
    ·obtain rfl:=oJ_ hi;exact h.pos _ _ e1
    ·exact h.pos C i hi
 ·have Ou:C ≠ b:=fun e'=>by
   subst e'
   unfold fD at e
   rw [cb,if_pos rfl] at e
   exact nf e
  show gz _ _ _ (b8 (jg s.sh a b) C)
  rw [ZI Ou nf]
  split
  ·rename_i e';subst e';exact sa.merge sb nf
  ·rename_i e'
   exact (h.tW C hC (FM nf ca e)).other e' Ou
 ·have Ou:C ≠ b:=fun e'=>by
   subst e'
   unfold fD at e
   rw [cb,if_pos rfl] at e
   exact nf e
  show oy _ _ _ (aD (iL s.ls a b) (C:Int))
  rw [ada Ou nf]
  split
  ·rename_i e';subst e';exact (h.cE C la ca).merge (h.cE b lb cb) nf
  ·rename_i e'
   exact (h.cE C hC (FM nf ca e)).other e' Ou
 ·have h0:=h.Oq C hC
  show aD (jg s.sh a b) (C:Int)=none
  unfold jg
  split
  ·split
   ·exact h0
   ·rw [bZ,if_neg (by omega)];exact h0
  ·exact h0
 ·have h0:=h.T3 C hC
  show aD (iL s.ls a b) (C:Int)=none
  unfold iL
  split
  ·split
   ·split
    ·rw [bZ,if_neg (by omega)];exact h0
    ·exact h0
   ·rw [bZ,if_neg (by omega)];exact h0
  ·exact h0
theorem w5 {α:Type}:∀ (l:List α),l=[]\/∃ l0 x,l=l0++[x]
 |[]=>.inl rfl
 |x::l=>.inr (by
  rcases w5 l with rfl|⟨l0,y,rfl⟩
  ·exact⟨[],x,rfl⟩
  ·exact⟨x::l0,y,rfl⟩)
theorem XP {K:Nat}(hK:∀ i,i < N.length->(ks N i).length<=K) (n m:Nat):∀ {c:Nat->Nat}{ps:List (Nat × Nat)}{s:JS},jH c N.length=n->ps.length=m->m+K*n<=1099511627776->m8 E N D c ps s ->
  ∃ f b s',fl N f ps s=some (b,s')/\(b=true->∃ c',m8 E N D c' [] s')/\(b=false->¬ ∃ f,tU E f):=by
 induction n using Nat.strongRecOn generalizing m with
 |ind n ZJ =>
  induction m with
  |zero =>
   intro c ps s hn hm hX h
   obtain rfl:=List.length_eq_zero_iff.1 hm
   exact⟨1,true,s,rfl,fun _=>⟨c,h⟩,fun e=>by cases e⟩
  |succ m ihm =>
   intro c ps s hn hm hX h
   rcases w5 ps with rfl|⟨p0,p,rfl⟩
   ·cases hm
   ·rw [List.length_append,List.length_singleton] at hm
    obtain⟨x,y⟩:=p
    obtain⟨hx,hy,jG⟩:=h.gi.lU (x,y) (by simp)
    simp only at hx hy jG
    obtain⟨hh,hU⟩:=h.uf
    have hl:=h.len
    obtain⟨u1,r1,zm,l1⟩:=hU.gQ (k:=x) (by omega)
    obtain⟨u2,r2,sU,l2⟩:=zm.gQ (k:=y) (by omega)
    have g1:jz E N D c ((x,y)::p0):=h.gi.perm fun p=>by simp [or_comm]
    have e0:∀ f,fl N (f+1) (p0++[(x,y)]) s=if c x=c y then fl N f p0 ⟨u2,s.sh,s.ls⟩ else
     match aD s.sh (c x:Int),aD s.sh (c y:Int) with
     |some i,some k=>match N[i.toNat]?,N[k.toNat]? with
      |some (t,l),some (t',l')=>if 0<=i/\0<=k then (if ox t t' then (if l.length=l'.length then fl N f (p0++l.zip l') ⟨u2.set (c y) (c x),jg s.sh (c x) (c y),iL s.ls (c x) (c y)⟩ else none) else some (false,⟨u2,s.sh,s.ls⟩)) else none
      |_,_=>none
     |_,_=>fl N f p0 ⟨u2.set (c y) (c x),jg s.sh (c x) (c y),iL s.ls (c x) (c y)⟩:=fun f=>by
     rw [fl,if_neg (by rw [List.length_append,List.length_singleton];omega)]
     simp only [List.getLast?_append,List.getLast?_singleton,Option.some_or,r1,r2,List.dropLast_concat]
    by_cases e:c x=c y
    ·have h2:m8 E N D c p0 ⟨u2,s.sh,s.ls⟩:=⟨g1.pop e,⟨hh,sU⟩,by simp only;omega,h.pos,h.tW,h.cE,h.Oq,h.T3⟩
     obtain⟨f,b,s',k1,k2⟩:=ihm hn (by omega) (by omega) h2
     exact⟨f+1,b,s',by rw [e0,if_pos e,k1],k2⟩
    ·have la:c x < N.length:=by have:=(hU.rt x (by omega)).2;omega
     have lb:c y < N.length:=by have:=(hU.rt y (by omega)).2;omega
     have ca:c (c x)=c x:=hU.cc (by omega)
     have cb:c (c y)=c y:=hU.cc (by omega)
     have sa:=h.tW _ la ca
     have sb:=h.tW _ lb cb
     have aA:jH (fD c (c x) (c y)) N.length < n:=by
      rw [<-hn]
      refine DS (fun i=>FM e ca) cb (fun e'=>?_) _ lb
      unfold fD at e'
      rw [cb,if_pos rfl] at e'
      exact e e'
     have hmul:K*jH (fD c (c x) (c y)) N.length+K<=K*n:=by rw [<-Nat.mul_succ];exact Nat.mul_le_mul_left K aA
     have ZK:∃ h,UF u2 c h:=⟨hh,sU⟩
     cases e1:aD s.sh (c x:Int) with
     |none =>
      have f1:b8 s.sh (c x)=none:=by unfold b8;rw [e1];rfl
      have h2:=h.merge rfl rfl e (P':=p0) (fun p=>by rw [f1];simp [l5]) (fun i j hi=>by rw [f1] at hi;cases hi) ZK (by omega)
      obtain⟨f,b,s',k1,k2⟩:=ZJ _ aA p0.length rfl rfl (by omega) h2
      exact⟨f+1,b,s',by rw [e0,if_neg e,e1];exact k1,k2⟩
     |some i =>
      cases e2:aD s.sh (c y:Int) with
      |none =>
       have f1:b8 s.sh (c y)=none:=by unfold b8;rw [e2];rfl
       have h2:=h.merge rfl rfl e (P':=p0) (fun p=>by rw [f1];cases b8 s.sh (c x)<;>simp [l5]) (fun i j _ hj=>by rw [f1] at hj;cases hj) ZK (by omega)
       obtain⟨f,b,s',k1,k2⟩:=ZJ _ aA p0.length rfl rfl (by omega) h2
       exact⟨f+1,b,s',by rw [e0,if_neg e,e1,e2];exact k1,k2⟩
      |some k =>
       have f1:b8 s.sh (c x)=some i.toNat:=by unfold b8;rw [e1];rfl
       have f2:b8 s.sh (c y)=some k.toNat:=by unfold b8;rw [e2];rfl
       rw [f1] at sa
       rw [f2] at sb
       obtain⟨Ov,sa2,sa3⟩:=sa
       obtain⟨T4,sb2,sb3⟩:=sb
       have hp:0<=i/\0<=k:=⟨h.pos _ _ e1,h.pos _ _ e2⟩
       cases e3:ox (tn N i.toNat) (tn N k.toNat) with
       |false =>
        refine⟨1,false,⟨u2,s.sh,s.ls⟩,?_,fun e=>(by cases e),fun _=>?_⟩
        ·rw [e0,if_neg e,e1,e2]
         simp only [pe Ov,pe T4,if_pos hp,e3]
         rfl
        ·exact g1.ac4 (s:=i.toNat) (t:=k.toNat) ⟨Ov,sa2,sa3⟩ ⟨T4,sb2,sb3⟩ fun h=>by rw [Bm.2 h] at e3;cases e3
       |true =>
        have aO:=Bm.1 e3
        have hlen:(ks N i.toNat).length=(ks N k.toNat).length:=by rw [lq h.gi.g Ov,lq h.gi.g T4,aO.2.2.2]
        have h2:=h.merge rfl rfl e (P':=p0++(ks N i.toNat).zip (ks N k.toNat)) (fun p=>by rw [f1,f2];simp only [l5,ET,List.mem_append];exact or_comm) (fun i' j' hi hj=>by rw [f1] at hi;rw [f2] at hj;rw [<-oJ_ hi,<-oJ_ hj];exact aO) ZK (by omega)
        obtain⟨f,b,s',k1,k2⟩:=ZJ _ aA _ rfl rfl (by rw [List.length_append,List.length_zip];have:=hK _ Ov;omega) h2
        refine⟨f+1,b,s',?_,k2⟩
        rw [e0,if_neg e,e1,e2]
        simp only [pe Ov,pe T4,if_pos hp,e3,if_true,if_pos hlen]
        exact k1
end
end
end Go.Proofs.YtgjfgekaclobaaaGreat
