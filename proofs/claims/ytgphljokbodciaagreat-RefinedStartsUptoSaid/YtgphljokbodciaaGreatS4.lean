import Derived.Laws.MakeOwn
import Derived.Laws.RangeAny
import Derived.Test.YtgphljokbodciaaGreatS3
namespace Go.Proofs.YtgphljokbodciaaGreat
set_option linter.unusedVariables false
set_option linter.unusedSimpArgs false
open Go.RowKit
section
variable {P:Program}{w0:World}{n:Nat}{o:Oper}{α:AA}{S S':ae}{r:AV}
theorem jY {w:World}{kd:IntKind}{i:Int}{y:Nat}{code:BoundsCode}(h0:0<=i) (h:i<=y):(Instr.sliceBound (.int kd i) y code).run P w=.ok i.toNat w:=by
 simp [Instr.sliceBound,asIntOf,h0,h]
theorem yu {g:Gh}{w:World}{a:Act}(hA:b7 g w n α a) {lo:Option Operand}{d l:Int}(h:kh (lo.map α.ev) d=some l):(lo=none/\l=d)\/∃ x kd,lo=some x/\a.eval x=.int kd l:=by
 cases lo with
 |none=>simp [kh] at h;exact .inl ⟨rfl,h.symm⟩
 |some x =>
  right
  have h1:=hA.ev x
  simp only [Option.map_some,kh] at h
  split at h
  ·rename_i e
   simp at e
  ·rename_i kd i e
   simp only [Option.some.injEq] at e h
   rw [e] at h1
   exact⟨x,kd,rfl,by rw [cd h1,h]⟩
  ·cases h
theorem lX {g:Gh}{w:World}{a:Act}(hA:b7 g w n α a) {isSl:Bool}{len cap:Nat}{lo hi:Option Operand}{l h:Int}(hl:kh (lo.map α.ev) 0=some l) (hh:kh (hi.map α.ev) len=some h) (h0:0<=l) (h1:l<=h) (h2:h<=cap) :
  (Instr.sliceBounds isSl len cap (lo.map a.eval) (hi.map a.eval) none).run P w=.ok (l.toNat,h.toNat,cap) w:=by
 have Eh:∀ code (w:World),(match lo.map a.eval with|some v=>Instr.sliceBound v h.toNat code|none=>pure 0:Sem Nat).run P w=.ok l.toNat w:=by
  intro code w
  rcases yu hA hl with ⟨rfl,rfl⟩|⟨x,kd,rfl,hx⟩
  ·rfl
  ·simp only [Option.map_some,hx]
   exact jY h0 (by omega)
 rcases yu hA hh with ⟨rfl,rfl⟩|⟨x,kd,rfl,hx⟩
 ·have:=Eh .sliceB w
  simp only [Int.toNat_natCast] at this ⊢
  cases lo with
  |none=>simp only [Option.map_none] at this ⊢;simp [Instr.sliceBounds];simpa using this
  |some y=>simp only [Option.map_some,Option.map_none] at this ⊢;simp [Instr.sliceBounds,this]
 ·have:=Eh .sliceB w
  have hb:=fun code=>jY (P:=P) (w:=w) (kd:=kd) (i:=h) (y:=cap) (code:=code) (by omega) h2
  cases lo with
  |none=>simp only [Option.map_none,Option.map_some,hx] at this ⊢;simp [Instr.sliceBounds,hb];simpa using this
  |some y=>simp only [Option.map_some,hx] at this ⊢;simp [Instr.sliceBounds,hb,this]
theorem xw {g:Gh}{w:World}{a:Act}(hA:b7 g w n α a) {isSl:Bool}{len cap:Nat}{lo:Option Operand}{x y:Operand}{k1 k2:IntKind}{l h m:Int}(hl:kh (lo.map α.ev) 0=some l) (hx:a.eval x=.int k1 h) (hy:a.eval y=.int k2 m) (h0:0<=l) (h1:l<=h) (h2:h<=m) (h3:m<=cap) :
  (Instr.sliceBounds isSl len cap (lo.map a.eval) (some (a.eval x)) (some (a.eval y))).run P w=.ok (l.toNat,h.toNat,m.toNat) w:=by
 have hb:=fun code=>jY (P:=P) (w:=w) (kd:=k2) (i:=m) (y:=cap) (code:=code) (by omega) h3
 have ft:=fun code=>jY (P:=P) (w:=w) (kd:=k1) (i:=h) (y:=m.toNat) (code:=code) (by omega) (by omega)
 rcases yu hA hl with ⟨rfl,rfl⟩|⟨z,kd,rfl,hz⟩
 ·simp [Instr.sliceBounds,hx,hy,hb,ft]
 ·have mY:=fun code=>jY (P:=P) (w:=w) (kd:=kd) (i:=l) (y:=h.toNat) (code:=code) h0 (by omega)
  simp [Instr.sliceBounds,hx,hy,hz,hb,ft,mY]
theorem Gi {g:Gh}{w:World}{ex ex':Bool}{rows:List (List AV)}{B:Option Addr}{c sz l h m:Nat}(hr:aL g w (.sl ex rows) (.slice B rows.length c)) (hl:∀ row ∈ rows,row.length=sz) (h1:l<=h) (h2:h<=rows.length) (h3:h<=m) (hex:ex'=true->m=h) :
  aL g w (.sl ex' ((rows.take h).drop l)) (.slice (if m=l then B else B.map (·.add (l*sz))) (h - l) (m - l)):=by
 have hlen:((rows.take h).drop l).length=h - l:=by simp;omega
 by_cases c0:h=l
 ·subst c0
  have e:(rows.take h).drop h=[]:=by apply List.drop_eq_nil_of_le;simp;omega
  rw [e,Nat.sub_self]
  exact .nil (fun h=>by rw [hex h,Nat.sub_self])
 ·cases hr with
  |nil hc=>simp at h2;omega
  |@sl _ _ b q sz' _ val hn hc hle nB p1 p2 =>
   have e:sz'=sz:=by
    have au:0 < rows.length:=List.length_pos_iff.2 hn
    have a1:=nB 0 _ (List.getElem?_eq_getElem au)
    have a2:=hl _ (List.getElem_mem au)
    omega
   subst e
   have kl:∀ (i:Nat) (row:List AV),((rows.take h).drop l)[i]?=some row->rows[l+i]?=some row:=by
    intro i row hi
    rw [List.getElem?_drop,List.getElem?_take] at hi
    split at hi
    ·exact hi
    ·cases hi
   have:=aL.sl (g:=g) (w:=w) (ex:=ex') (rows:=(rows.take h).drop l) (b:=b) (o:=q+l*sz') (sz:=sz') (c:=m - l) (val:=fun i j=>val (l+i) j) (fun e=>by rw [e] at hlen;simp at hlen;omega) (fun h=>by rw [hlen,hex h]) (by rw [hlen];omega)
    (fun i row hi=>nB _ row (kl i row hi)) (fun i j row a hi hj=>by
     have:=p1 (l+i) j row a (kl i row hi) hj
     rwa [Nat.add_mul,show q+(l*sz'+i*sz'+j)=q+l*sz'+(i*sz'+j) by omega] at this) (fun i j row a hi hj=>p2 (l+i) j row a (kl i row hi) hj)
   rw [hlen] at this
   rw [if_neg (by omega)]
   simpa [fS] using this
theorem za {t:TypeId}{d:TypeDesc}{w:World}(hu:P.underlying t=some d) (hd:∀ k e,d ≠ .array k e) (x:Value) (lo hi mx:Option Value):(Instr.sliceAt t x lo hi mx).run P w=(Instr.slice t x lo hi mx).run P w:=by
 simp only [Instr.sliceAt,Sem.run_bind,run_underlying hu,Result.andThen_ok]
theorem JZ {t:TypeId}{x:Operand}{lo hi mx:Option Operand}{K:AV->ae->Prop}(ho:o.op=.slice t x lo hi mx) (h:jO P t K S (α.ev x) (lo.map α.ev) (hi.map α.ev) (mx.map α.ev)):∃ r S',bg P w0 n o α S r S'/\K r S':=by
 have fin:∀ (r:AV) {d:TypeDesc},P.underlying t=some d->(∀ k e,d ≠ .array k e)->(∀ (A:Nat->Prop) (g:Gh) (a:Act) (w:World),St w0 A g S w->b7 g w n α a->∃ v,(Instr.slice t (a.eval x) (lo.map a.eval) (hi.map a.eval) (mx.map a.eval)).run P w=.ok v w/\aL g w r v)->K r S->∃ r S',bg P w0 n o α S r S'/\K r S':=by
  intro r d hu hd cu hK
  refine⟨r,S,bg.quiet fun A g a w hS hA=>?_,hK⟩
  obtain⟨v,h1,h2⟩:=cu A g a w hS hA
  refine⟨v,?_,h2⟩
  simp only [execOp,ho,Sem.run_bind,za hu hd,h1,Result.andThen_ok]
  rfl
 unfold jO at h
 split at h
 ·rename_i s tw R1
  split at h
  ·rename_i l hh hu hl tj
   obtain⟨h0,h1,h2,hK⟩:=h
   refine fin _ hu (fun k e h=>by cases h) (fun A g a w hS hA=>?_) hK
   have hx:=hA.ev x
   rw [tw] at hx
   have hm:mx=none:=by cases mx<;>simp_all
   subst hm
   refine⟨_,?_,.v⟩
   have:=lX (P:=P) (isSl:=false) (cap:=s.size) (w:=w) hA hl tj h0 h1 (by omega)
   simp [Instr.slice,cd hx,run_underlying hu,this]
  ·exact h.elim
 ·rename_i ex rows tw R1
  split at h
  ·rename_i e l hh hu hl tj
   obtain⟨sc,J3,h0,h1,h2,hK⟩:=h
   obtain⟨sz,hs⟩:=Option.isSome_iff_exists.1 J3
   refine fin _ hu (fun k e h=>by cases h) (fun A g a w hS hA=>?_) hK
   have hx:=hA.ev x
   rw [tw] at hx
   have hm:mx=none:=by cases mx<;>simp_all
   subst hm
   obtain⟨B,c,e1,hle,_⟩:=nJ hx
   rw [e1] at hx
   have hb:=lX (P:=P) (isSl:=true) (cap:=c) (w:=w) hA hl tj h0 h1 (by omega)
   refine⟨_,?_,Gi (ex':=false) (m:=c) hx (fun row hr=>by have:=sc row hr;rw [hs] at this;exact (Option.some.inj this).symm) (show l.toNat<=hh.toNat by omega) (by omega) (by omega) (fun h=>by cases h)⟩
   simp [Instr.slice,e1,run_underlying hu,hb,cP hs]
  ·exact h.elim
 ·rename_i ex rows kd m tw R1
  split at h
  ·rename_i e l Xl hh hu hl tj
   obtain⟨sc,J3,h0,h1,rfl,h2,hK⟩:=h
   obtain⟨sz,hs⟩:=Option.isSome_iff_exists.1 J3
   refine fin _ hu (fun k e h=>by cases h) (fun A g a w hS hA=>?_) hK
   have hx:=hA.ev x
   rw [tw] at hx
   obtain⟨y,rfl,hy⟩:∃ y,mx=some y/\α.ev y=.v (.int kd hh):=by cases mx<;>simp_all
   obtain⟨z,rfl,hz⟩:∃ z,hi=some z/\α.ev z=.v (.int Xl hh):=by cases hi<;>simp_all
   have e2:=hA.ev y
   have e3:=hA.ev z
   rw [hy] at e2
   rw [hz] at e3
   obtain⟨B,c,e1,hle,_⟩:=nJ hx
   rw [e1] at hx
   have hb:=xw (P:=P) (isSl:=true) (len:=rows.length) (cap:=c) (w:=w) hA hl (cd e3) (cd e2) h0 h1 (Int.le_refl _) (by omega)
   refine⟨_,?_,Gi (ex':=true) (m:=hh.toNat) hx (fun row hr=>by have:=sc row hr;rw [hs] at this;exact (Option.some.inj this).symm) (show l.toNat<=hh.toNat by omega) (by omega) (Nat.le_refl _) (fun _=>rfl)⟩
   simp only [Option.map_some]
   simp [Instr.slice,e1,run_underlying hu,hb,cP hs]
  ·exact h.elim
 ·rename_i k sz off len cx tw R1
  split at h
  ·rename_i e hh hu Eh tj
   obtain⟨hs,h0,h1,hK⟩:=h
   refine fin _ hu (fun k e h=>by cases h) (fun A g a w hS hA=>?_) hK
   have hx:=hA.ev x
   rw [tw] at hx
   have hm:mx=none:=by cases mx<;>simp_all
   subst hm
   obtain⟨c,e1,bG,hc,hp,l4,hle⟩:=gA hx
   have hl:kh (lo.map α.ev) 0=some 0:=by rw [Eh];rfl
   have hb:=lX (P:=P) (isSl:=true) (cap:=c) (w:=w) hA hl tj (Int.le_refl _) h0 (by omega)
   have dG:(Instr.slice t (a.eval x) (lo.map a.eval) (hi.map a.eval) (Option.map a.eval none)).run P w=.ok (.slice (some ⟨g.ob k,off*sz,none⟩) hh.toNat c) w:=by
    simp [Instr.slice,e1,run_underlying hu,hb,cP hs,fS]
   exact⟨_,dG,.ob bG hc hp l4 (by omega)⟩
  ·rename_i e kd l hh hu Eh tj
   obtain⟨hs,h0,h1,h2,hK1,hK2⟩:=h
   have hl:kh (lo.map α.ev) 0=some l:=by rw [Eh];rfl
   by_cases c0:l=hh
   ·refine fin _ hu (fun k e h=>by cases h) (fun A g a w hS hA=>?_) (hK1 c0)
    have hx:=hA.ev x
    rw [tw] at hx
    have hm:mx=none:=by cases mx<;>simp_all
    subst hm
    obtain⟨c,e1,bG,hc,hp,l4,hle⟩:=gA hx
    have hb:=lX (P:=P) (isSl:=true) (cap:=c) (w:=w) hA hl tj h0 h1 (by omega)
    have dG:(Instr.slice t (a.eval x) (lo.map a.eval) (hi.map a.eval) (Option.map a.eval none)).run P w=.ok (.slice (if c=l.toNat then some ⟨g.ob k,off*sz,none⟩ else (some ⟨g.ob k,off*sz,none⟩:Option Addr).map (·.add (l.toNat*sz))) 0 (c - l.toNat)) w:=by
     simp [Instr.slice,e1,run_underlying hu,hb,cP hs,c0]
    exact⟨_,dG,.nil (fun h=>by cases h)⟩
   ·refine fin _ hu (fun k e h=>by cases h) (fun A g a w hS hA=>?_) (hK2 (by omega))
    have hx:=hA.ev x
    rw [tw] at hx
    have hm:mx=none:=by cases mx<;>simp_all
    subst hm
    obtain⟨c,e1,bG,hc,hp,l4,hle⟩:=gA hx
    have hb:=lX (P:=P) (isSl:=true) (cap:=c) (w:=w) hA hl tj h0 h1 (by omega)
    have bH:¬ c=l.toNat:=by omega
    have dG:(Instr.slice t (a.eval x) (lo.map a.eval) (hi.map a.eval) (Option.map a.eval none)).run P w=.ok (.slice (some ⟨g.ob k,(off+l.toNat)*sz,none⟩) (hh.toNat - l.toNat) (c - l.toNat)) w:=by
     simp [Instr.slice,e1,run_underlying hu,hb,cP hs,bH,fS,Nat.add_mul]
    refine⟨_,dG,.ob bG (fun m hm=>?_) (by omega) (fun hm=>?_) (by omega)⟩
    ·cases cx with
     |none=>simp at hm
     |some c'=>simp at hm;have:=hc c' rfl;omega
    ·cases cx with
     |none=>have:=l4 rfl;omega
     |some c'=>simp at hm
  ·exact h.elim
 ·rename_i k sz off len cx kd m tw R1
  split at h
  ·rename_i e l Xl hh hu hl tj
   obtain⟨hs,rfl,rfl,h1,h0,hK⟩:=h
   refine fin _ hu (fun k e h=>by cases h) (fun A g a w hS hA=>?_) hK
   have hx:=hA.ev x
   rw [tw] at hx
   obtain⟨y,rfl,hy⟩:∃ y,mx=some y/\α.ev y=.v (.int kd hh):=by cases mx<;>simp_all
   obtain⟨z,rfl,hz⟩:∃ z,hi=some z/\α.ev z=.v (.int Xl hh):=by cases hi<;>simp_all
   have e2:=hA.ev y
   have e3:=hA.ev z
   rw [hy] at e2
   rw [hz] at e3
   obtain⟨c,e1,bG,hc,hp,l4,hle⟩:=gA hx
   have hb:=xw (P:=P) (isSl:=true) (len:=len) (cap:=c) (w:=w) hA hl (cd e3) (cd e2) (Int.le_refl _) h0 (Int.le_refl _) (by omega)
   have dG:(Instr.slice t (a.eval x) (lo.map a.eval) (some (a.eval z)) (some (a.eval y))).run P w=.ok (.slice (some ⟨g.ob k,off*sz,none⟩) hh.toNat hh.toNat) w:=by
    simp [Instr.slice,e1,run_underlying hu,hb,cP hs,fS]
   exact⟨_,dG,.ob bG (fun m hm=>by simp at hm;exact hm) (by omega) (fun h=>by cases h) (Nat.le_refl _)⟩
  ·exact h.elim
 ·exact h.elim
end
section
variable {P:Program}{w0:World}{n:Nat}{o:Oper}{α:AA}{S S':ae}{r:AV}
theorem St.putObj {A:Nat->Prop}{g:Gh}{w:World}{k:Nat}{o ob:Ob}(hS:St w0 A g S w) (hk:S.get k=some o) (ha:g.al k) (uS:∀ J,o ≠ .fo J/\ob ≠ .fo J) {x':Obj}{w':World}(om:w'={ w with heap:=w.heap.setIfInBounds (g.ob k) x' })
  (hc:∀ q,w'.cell? ⟨g.ob k,q,none⟩=w.cell? ⟨g.ob k,q,none⟩) (gU:Later g w g w'->w'.heap[g.ob k]?=some x'->dF g w' (g.ob k) (g.cp k) ob):Ext A g w g w'/\St w0 A g (S.set k (some ob)) w':=by
 obtain⟨k2,k3,k4⟩:=hS.cH k o hk ha
 have bI:w'.heap.size=w.heap.size:=by rw [om];simp
 have uu:∀ b,b ≠ g.ob k->w'.heap[b]?=w.heap[b]?:=by
  intro b hb
  rw [om]
  simp only [Array.getElem?_setIfInBounds]
  rw [if_neg (Ne.symm hb)]
 have uv:w'.heap[g.ob k]?=some x':=by
  rw [om]
  simp [Array.getElem?_setIfInBounds,k3]
 have lN:∀ b q,w'.cell? ⟨b,q,none⟩=w.cell? ⟨b,q,none⟩:=by
  intro b q
  by_cases e:b=g.ob k
  ·subst e;exact hc q
  ·exact World.cell?_of_block (uu b e)
 have hL:Later g w g w':=⟨fun _ h=>h,fun _ _=>rfl,fun _ _=>rfl,fun _ _ h=>h,fun b q _=>lN b q⟩
 have hE:Ext A g w g w':={ hL with size:=by rw [bI];exact Nat.le_refl _,aT:=fun b hb hA=>uu b (fun e=>hA (by rw [e];exact k2)),gH:=fun _ _ h=>.inl h }
 have key:∀ l r,(S.set k (some ob)).get l=some r->(l=k/\r=ob)\/(l ≠ k/\S.get l=some r):=by
  intro l r hl
  have hl:bP S.get k (some ob) l=some r:=hl
  by_cases e:l=k
  ·subst e
   rw [aG] at hl
   exact .inl ⟨rfl,(Option.some.inj hl).symm⟩
  ·rw [aN _ _ e] at hl
   exact .inr ⟨e,hl⟩
 refine⟨hE,hS.next hE (by rw [om]) (by rw [om]) (by rw [om]) hS.al (fun j p hj aj=>?_) (fun i j p q hi hj ai aj e=>?_) (fun b q hf=>by rw [bI];exact hS.cK b q hf) rfl (fun j J hj aj=>(key j _ hj).elim (fun e=>absurd e.2.symm (uS J).2) fun e=>⟨e.2,aj⟩) (fun j p hj aj=>.inr ((key j p hj).elim (fun e=>⟨j,o,aj,e.1.symm ▸ hk,rfl,.inl rfl⟩) fun e=>⟨j,p,aj,e.2,rfl,.inl rfl⟩))⟩
 ·rcases key j p hj with ⟨rfl,rfl⟩|⟨bH,hj⟩
  ·exact⟨k2,by rw [bI];exact k3,gU hL uv⟩
  ·obtain⟨h2,h3,h4⟩:=hS.cH j p hj aj
   exact⟨h2,by rw [bI];exact h3,h4.later hL (uu _ (fun e=>bH (hS.inj j k p _ hj hk aj ha e))) (fun _ h=>h) fun J hJ=>⟨rfl,by rw [bI];exact Nat.le_refl _,fun c hc=>uu c fun e=>hS.j2 j J k o (by rw [<-hJ];exact hj) aj hk ha (fun e'=>bH e'.symm) (by rw [<-e];exact hc),fun _ _ _ h=>h⟩⟩
 ·rcases key i p hi with ⟨rfl,_⟩|⟨h1,nZ⟩<;>rcases key j q hj with ⟨rfl,_⟩|⟨h2,iE⟩
  ·rfl
  ·exact hS.inj i j _ q hk iE ai aj e
  ·exact hS.inj i j p _ nZ hk ai aj e
  ·exact hS.inj i j p q nZ iE ai aj e
theorem J4 {t e:TypeId}{l c:Operand}{z:Value}{sz by_:Nat}{ka kb:IntKind}{a:Int}(ho:o.op=.makeSlice t l c) (ht:P.underlying t=some (.slice e)) (hz:cY P e=some z) (hs:cS P e=some sz) (j4:gm P e=some by_)
  (ld:z.cells.size=sz) (QX:0 < sz) (hl:α.ev l=.v (.int ka a)) (hc:α.ev c=.v (.int kb a)) (h1:0<=a) (h2:a*by_<=35184372088832) (h3:a<=9223372036854775807) :
  bg P w0 n o α S (.ob S.nx sz 0 a.toNat none) (S.new (.arr sz (List.replicate a.toNat (z.cells.toList.map bV)) 0 true)):=by
 intro A g q w hS hA
 obtain⟨i,hi,bI⟩:=iI hs
 have pK:i.zero=some z:=by unfold cY at hz;rw [hi] at hz;simpa using hz
 have Bn:i.bytes=by_:=by unfold gm at j4;rw [hi] at j4;simpa using j4
 have gZ:=hA.ev l
 have y3:=hA.ev c
 rw [hl] at gZ
 rw [hc] at y3
 have gZ:=cd gZ
 have y3:=cd y3
 have cu:=run_make (P:=P) w t e i z ht hi pK ka kb a a h1 (Int.le_refl _) (by rw [Bn,Int.mul_comm];omega) h3
 have ri:∀ q,¬ g.fz w.heap.size q:=fun q hf=>absurd (hS.cK _ _ hf) (Nat.lt_irrefl _)
 obtain⟨hE,cZ⟩:=hS.new (.cells (madeCells z.cells (a.toNat*i.size)) e) (.arr sz (List.replicate a.toNat (z.cells.toList.map bV)) 0 true) a.toNat (fun J=>by simp) (fun hL=>by
  refine⟨_,e,dy,?_,by simp,fun _=>by simp,fun m row hr=>?_,Nat.zero_le _,fun q=>⟨fun h=>absurd h (ri q),fun h=>by simp at h⟩⟩
  ·rw [size_madeCells,bI]
  ·obtain⟨gY,rfl⟩:=List.getElem?_eq_some_iff.1 hr
   simp only [List.length_replicate] at gY
   simp only [List.getElem_replicate]
   refine⟨by simp [ld],fun j b hj=>?_⟩
   simp only [List.getElem?_map,Option.map_eq_some_iff] at hj
   obtain⟨y,hy,rfl⟩:=hj
   have vt:j < sz:=by
    have:=(List.getElem?_eq_some_iff.1 hy).1
    simp at this
    omega
   refine⟨y,?_,j3 y⟩
   have au:m*sz+j < a.toNat*sz:=jQ gY vt
   have iE:j < z.cells.size:=by omega
   have e1:(m*sz+j) % z.cells.size=j:=by
    rw [ld,Nat.mul_comm,Nat.mul_add_mod]
    exact Nat.mod_eq_of_lt vt
   have e2:(madeCells z.cells (a.toNat*i.size))[m*sz+j]?=some (z.cells[(m*sz+j) % z.cells.size]!):=by
    unfold madeCells
    rw [Array.getElem?_map,Array.getElem?_range,if_pos (by rw [bI];exact au)]
    rfl
   rw [e2,e1,getElem!_pos z.cells j iE,<-hy,Array.getElem?_toList,Array.getElem?_eq_getElem iE])
 refine⟨.slice (some ⟨w.heap.size,0,none⟩) a.toNat a.toNat,_,_,.inl ?_,?_,cZ,hE⟩
 ·simp only [execOp,ho,gZ,y3,Sem.run_bind,cu]
  rfl
 ·have:=aL.ob (g:=g.new S.nx w.heap.size a.toNat) (w:=w.alloc (.cells (madeCells z.cells (a.toNat*i.size)) e)) (k:=S.nx) (sz:=sz) (off:=0) (len:=a.toNat) (c:=a.toNat) (cx:=none) (.inr rfl) (fun m h=>by cases h)
   (by rw [Nat.zero_add];exact Nat.le_of_eq (aG _ _ _).symm) (fun _=>by rw [Nat.zero_add];exact (aG _ _ _).symm) (Nat.le_refl _)
  rw [show (g.new S.nx w.heap.size a.toNat).ob S.nx=w.heap.size from aG _ _ _,Nat.zero_mul] at this
  exact this
theorem Ei {t:TypeId}{x:Operand}{s:ByteArray}(ho:o.op=.range t x) (hu:P.underlying t=some .string) (hx:α.ev x=.v (.string s)):bg P w0 n o α S (.pt S.nx 0 0 0) (S.new (.si s 0)):=by
 intro A g a w hS hA
 have h1:=hA.ev x
 rw [hx] at h1
 have h1:=cd h1
 obtain⟨hE,cZ⟩:=hS.new (.stringIter s 0) (.si s 0) 0 (fun J=>by simp) (fun hL=>dy)
 refine⟨.pointer (some ⟨w.heap.size,0,none⟩),_,_,.inl ?_,?_,cZ,hE⟩
 ·simp only [execOp,ho,h1,Sem.run_bind,run_range_string w t s hu]
  rfl
 ·have:=aL.pt (g:=g.new S.nx w.heap.size 0) (w:=w.alloc (.stringIter s 0)) (k:=S.nx) (sz:=0) (i:=0) (j:=0) (.inr rfl)
  rw [show (g.new S.nx w.heap.size 0).ob S.nx=w.heap.size from aG _ _ _] at this
  simpa using this
theorem Gj {g:Gh}{w:World}{k sz:Nat}{v:Value}(h:aL g w (.pt k sz 0 0) v):v=.pointer (some ⟨g.ob k,0,none⟩)/\g.al k:=by
 cases h with
 |pt hk=>exact⟨by simp,hk⟩
theorem Fa {x:Operand}{k sz pos:Nat}{s:ByteArray}(ho:o.op=.next x true) (hx:α.ev x=.pt k sz 0 0) (hk:S.get k=some (.si s pos)) (h:pos < s.size) :
  bg P w0 n o α S (.bc [.v (.bool true),.v (.int .i64 pos),.v (.int .i32 (Utf8.decode s pos).1)]) (S.set k (some (.si s (pos+(Utf8.decode s pos).2)))):=by
 intro A g a w hS hA
 have h1:=hA.ev x
 rw [hx] at h1
 obtain⟨h1,ha⟩:=Gj h1
 obtain⟨k2,k3,k4⟩:=hS.cH k _ hk ha
 have k4:w.heap[g.ob k]?=some (.stringIter s pos):=k4
 obtain⟨w',om⟩:∃ w':World,w'={ w with heap:=w.heap.setIfInBounds (g.ob k) (.stringIter s (pos+(Utf8.decode s pos).2)) }:=⟨_,rfl⟩
 have uv:w'.heap[g.ob k]?=some (.stringIter s (pos+(Utf8.decode s pos).2)):=by
  rw [om]
  simp [Array.getElem?_setIfInBounds,k3]
 obtain⟨hE,cZ⟩:=hS.putObj hk ha (fun J=>⟨by simp,by simp⟩) om (fun q=>by simp [World.cell?,uv,k4]) (ob:=.si s (pos+(Utf8.decode s pos).2)) (fun _ h=>h)
 refine⟨.tuple #[.bool true,.int .i64 pos,.int .i32 (Utf8.decode s pos).1],w',g,.inl ?_,?_,cZ,hE⟩
 ·rw [om]
  simp [execOp,ho,h1,Instr.next,getObj,setObj,Sem.run,k4,h,goInt]
 ·refine .bc rfl (fun i b y hb hy=>?_)
  match i with
  |0=>simp at hb hy;subst hb hy;exact .v
  |1=>simp at hb hy;subst hb hy;exact .v
  |2=>simp at hb hy;subst hb hy;exact .v
  |i+3=>simp at hb
theorem Fb {x:Operand}{k sz pos:Nat}{s:ByteArray}(ho:o.op=.next x true) (hx:α.ev x=.pt k sz 0 0) (hk:S.get k=some (.si s pos)) (h:¬ pos < s.size):bg P w0 n o α S (.bc [.v (.bool false)]) S :=
 bg.quiet fun A g a w hS hA=>by
  have h1:=hA.ev x
  rw [hx] at h1
  obtain⟨h1,ha⟩:=Gj h1
  obtain⟨k2,k3,k4⟩:=hS.cH k _ hk ha
  have k4:w.heap[g.ob k]?=some (.stringIter s pos):=k4
  refine⟨.tuple #[.bool false],?_,?_⟩
  ·simp [execOp,ho,h1,Instr.next,getObj,Sem.run,k4,h]
  ·refine .bc rfl (fun i b y hb hy=>?_)
   match i with
   |0=>simp at hb hy;subst hb hy;exact .v
   |i+1=>simp at hb
end
section
variable {P:Program}{w0:World}{n:Nat}{o:Oper}{α:AA}{S S':ae}{r:AV}
theorem fY {g:Gh}{w:World}{l m:List AV}{xs ys:Array Value}(h:jL g w l xs) (k:jL g w m ys):jL g w (l++m) (xs++ys):=by
 refine⟨by simp [h.1,k.1],fun i a x h1 h2=>?_⟩
 by_cases c:i < l.length
 ·rw [List.getElem?_append_left c] at h1
  rw [Array.getElem?_append_left (by rw [h.1];exact c)] at h2
  exact h.2 i a x h1 h2
 ·rw [List.getElem?_append_right (by omega)] at h1
  rw [Array.getElem?_append_right (by rw [h.1];omega),h.1] at h2
  exact k.2 _ a x h1 h2
theorem Gk {c:Call}{f:Operand}{gf:FuncId}{args:List AV}{r:AV}(ho:o.op=.call c) (hc:c.callee=.value f)
  (hf:∀ (A:Nat->Prop) (g:Gh) (a:Act) (w:World),St w0 A g S w->b7 g w n α a->∃ first cap,a.eval f=.func (.func gf) first cap/\jL g w args (first++c.args.map a.eval++cap)) (h:aV P w0 gf args S r S'):eB P w0 n o α S r S':=by
 intro F m A g a w next Q hF hS hA mB
 rw [Oper.semAt_eq _ _ _ (fun c' e=>by rw [ho] at e;cases e)]
 obtain⟨first,cap,he,hr⟩:=hf A g a w hS hA
 have cu:(execOp a.eval o).run P w=.ok (.enter gf (first++c.args.map a.eval++cap)) w:=by
  simp only [execOp,ho,resolve,hc,he,Deferred.ofValue,Sem.run_bind,Sem.run_pure,Result.andThen_ok,invoke]
  exact h.1 _ w
 rw [cu,Oper.uponIn_enter]
 refine⟨fun hd=>(by rw [hF.2.1] at hd;cases hd),(h.2 F (m - 1) A g _ w hF hS hr).mono ?_⟩
 rintro e w' ⟨v,g',rfl,h1,h2,h3⟩
 exact mB v w' g' h1 h2 h3
theorem wE {c:Call}{f:Operand}{k:Nat}{r:AV}(ho:o.op=.call c) (hc:c.callee=.value f) (hf:α.ev f=.yl k) (h:nz P w0 k (c.args.toList.map α.ev) S r S'):eB P w0 n o α S r S':=by
 intro F m A g a w next Q hF hS hA mB
 rw [Oper.semAt_eq _ _ _ (fun c' e=>by rw [ho] at e;cases e)]
 have h1:=hA.ev f
 rw [hf] at h1
 obtain⟨y,hy⟩:∃ y,a.eval f=y:=⟨_,rfl⟩
 rw [hy] at h1
 cases h1 with
 |yl hk =>
  obtain⟨l,fn,tmps,assign,body,Xm,Xn⟩:=h F (m - 1) A g (c.args.map a.eval) w hF hS hk (mG hA c.args)
  have cu:(execOp a.eval o).run P w=.ok (.round l fn tmps assign body) w:=by
   simp only [execOp,ho,resolve,hc,hy,Deferred.ofValue,Sem.run_bind,Sem.run_pure,Result.andThen_ok,invoke]
   simpa using Xm
  rw [cu,Oper.uponIn_round]
  refine⟨fun hd=>(by rw [hF.2.1] at hd;cases hd),Xn.mono ?_⟩
  rintro e w' ⟨v,g',rfl,h1,h2,h3⟩
  exact mB v w' g' h1 h2 h3
theorem Up {β γ:Type}{f:β->γ}{l:Array β}{a:γ}(h:l.toList.map f=[a]):∃ x,l=#[x]/\f x=a:=by
 obtain⟨l⟩:=l
 match l,h with
 |[x],h=>exact⟨x,rfl,by simpa using h⟩
theorem AT {β γ:Type}{f:β->γ}{l:Array β}{a b:γ}(h:l.toList.map f=[a,b]):∃ x y,l=#[x,y]/\f x=a/\f y=b:=by
 obtain⟨l⟩:=l
 match l,h with
 |[x,y],h=>exact⟨x,y,rfl,by simp at h;exact h.1,by simp at h;exact h.2⟩
theorem bQ {op:Op}(ho:o.op=op) (h:∀ c,op ≠ .defer c):∀ c,o.op ≠ .defer c:=fun c e=>h c (ho.symm.trans e)
theorem vX {K:AV->ae->Prop}(h:bm P w0 o.op α S K):∃ r S',eB P w0 n o α S r S'/\K r S':=by
 have ok:∀ {r:AV}{S':ae},bg P w0 n o α S r S'->(∀ c,o.op ≠ .defer c)->K r S'->∃ r S',eB P w0 n o α S r S'/\K r S':=fun hr hd hK=>⟨_,_,hr.ops hd,hK⟩
 cases bC:o.op with
 |move x=>rw [bC] at h;exact ok (DG (.inl bC)) (bQ bC fun c e=>by cases e) h
 |assign x=>rw [bC] at h;exact ok (DG (.inr bC)) (bQ bC fun c e=>by cases e) h
 |pick c a b =>
  rw [bC] at h
  simp only [bm,bp] at h
  split at h
  ·rename_i t hc
   have hr:=NG (n:=n) (P:=P) (w0:=w0) (S:=S) bC hc
   cases t with
   |true=>exact ok hr (bQ bC fun c e=>by cases e) h
   |false=>exact ok hr (bQ bC fun c e=>by cases e) h
  ·exact h.elim
 |alloc e =>
  rw [bC] at h
  simp only [bm,bp] at h
  split at h
  ·rename_i z hz;exact ok (Lf bC hz) (bQ bC fun c e=>by cases e) h
  ·exact h.elim
 |box e x =>
  rw [bC] at h
  simp only [bm,bp] at h
  split at h
  ·rename_i hx;exact ok (T6 bC hx) (bQ bC fun c e=>by cases e) h
  ·exact h.elim
 |build t parts =>
  rw [bC] at h
  simp only [bm,bp] at h
  split at h
  ·rename_i a ha;exact ok (HI bC ha) (bQ bC fun c e=>by cases e) h
  ·exact h.elim
 |buildSlice t len parts =>
  rw [bC] at h
  simp only [bm,bp] at h
  split at h
  ·rename_i e he
   split at h
   ·rename_i z sz hz hs
    split at h
    ·rename_i hb
     simp only [Bool.and_eq_true] at hb
     obtain⟨⟨b1,b2⟩,b3⟩:=hb
     split at h
     ·rename_i rows hr
      have hu:P.underlying t=some (.slice e):=by
       unfold fJ at he
       split at he
       ·rename_i e' hu;rw [hu,Option.some.inj he]
       ·cases he
      exact ok (AG bC hu hz hs (Nat.le_of_ble_eq_true b1) (Nat.eq_of_beq_eq_true b2) (Nat.lt_of_lt_of_le Nat.zero_lt_one (Nat.le_of_ble_eq_true b3)) hr) (bQ bC fun c e=>by cases e) h
     ·exact h.elim
    ·exact h.elim
   ·exact h.elim
  ·exact h.elim
 |load t x =>
  rw [bC] at h
  simp only [bm,bp] at h
  split at h
  ·rename_i a ha;exact ok (Lg bC ha) (bQ bC fun c e=>by cases e) h
  ·exact h.elim
 |store t x b =>
  rw [bC] at h
  simp only [bm,bp] at h
  split at h
  ·rename_i a ha;exact ok (HJ bC ha) (bQ bC fun c e=>by cases e) h
  ·exact h.elim
 |binOp op t x y ty =>
  rw [bC] at h
  simp only [bm,bp] at h
  split at h
  ·rename_i k a k' b hx hy
   split at h
   ·rename_i c hc
    split at h
    ·rename_i hk
     obtain rfl:=of_decide_eq_true hk
     obtain⟨d,rfl,hK⟩:=h
     exact ok (Lh bC hx hy hc) (bQ bC fun c e=>by cases e) hK
    ·exact h.elim
   ·split at h
    ·rename_i v hv;exact ok (x_ bC hx hy hv) (bQ bC fun c e=>by cases e) h.out
    ·exact h.elim
  ·rename_i a b hx hy
   split at h
   ·exact ok (HK bC hx hy h.1) (bQ bC fun c e=>by cases e) h.2
   ·split at h
    ·rename_i v hv;exact ok (x_ bC hx hy hv) (bQ bC fun c e=>by cases e) h.out
    ·exact h.elim
  ·rename_i a b n1 n2 hx hy
   split at h
   ·rename_i v hv;exact ok (x_ bC hx hy hv) (bQ bC fun c e=>by cases e) h.out
   ·exact h.elim
  ·exact h.elim
 |unOp op t x =>
  rw [bC] at h
  simp only [bm,bp] at h
  split at h
  ·rename_i b hx;exact ok (T7 bC hx) (bQ bC fun c e=>by cases e) h
  ·rename_i k a hx
   obtain⟨d,rfl,hK⟩:=h
   exact ok (T8 bC hx) (bQ bC fun c e=>by cases e) hK
  ·exact h.elim
 |convert src dst x =>
  rw [bC] at h
  simp only [bm,bp] at h
  split at h
  ·rename_i k0 k k' a hs hd hx
   obtain⟨d,rfl,hK⟩:=h
   exact ok (EX bC hs hd hx) (bQ bC fun c e=>by cases e) hK
  ·rename_i s hs hd hx
   exact ok (EY bC hs hd hx) (bQ bC fun c e=>by cases e) h
  ·exact h.elim
 |fieldAddr s x f =>
  rw [bC] at h
  simp only [bm,bp] at h
  split at h
  ·rename_i fs hu
   split at h
   ·rename_i fd hf
    split at h
    ·rename_i m hs
     split at h
     ·rename_i row hx;exact ok (EZ bC hu hf hs hx) (bQ bC fun c e=>by cases e) h
     ·rename_i k sz i j hx;exact ok (E0 bC hu hf hs hx) (bQ bC fun c e=>by cases e) h
     ·exact h.elim
    ·exact h.elim
   ·exact h.elim
  ·exact h.elim
 |field t x f =>
  rw [bC] at h
  simp only [bm,bp] at h
  split at h
  ·rename_i fs hu
   split at h
   ·rename_i fd hf
    split at h
    ·rename_i l hx
     split at h
     ·rename_i a ha;exact ok (HL bC hu hf hx ha) (bQ bC fun c e=>by cases e) h
     ·exact h.elim
    ·exact h.elim
   ·exact h.elim
  ·exact h.elim
 |indexAddr t x i =>
  rw [bC] at h
  simp only [bm,bp] at h
  split at h
  ·rename_i e ex rows kd k hu hx hy
   split at h
   ·rename_i sz hs
    split at h
    ·rename_i row hi;exact ok (E3 bC hu hx hy hs hi h.1) (bQ bC fun c e=>by cases e) h.2
    ·exact h.elim
   ·exact h.elim
  ·rename_i e k sz off len cx kd i hu hx hy
   exact ok (E4 bC hu hx hy h.1 h.2.1 h.2.2.1) (bQ bC fun c e=>by cases e) h.2.2.2
  ·rename_i len e k sz i j kd q hu hx hy
   split at h
   ·rename_i m hs;exact ok (AH bC hu hx hy hs h.1 h.2.1) (bQ bC fun c e=>by cases e) h.2.2
   ·exact h.elim
  ·rename_i len e row kd q hu hx hy
   split at h
   ·rename_i m hs;exact ok (AI bC hu hx hy hs h.1 h.2.1) (bQ bC fun c e=>by cases e) h.2.2
   ·exact h.elim
  ·exact h.elim
 |index t x i =>
  rw [bC] at h
  simp only [bm,bp] at h
  split at h
  ·rename_i s kd k hu hx hy
   split at h
   ·rename_i b hi;exact ok (DL bC hu hx hy hi) (bQ bC fun c e=>by cases e) h
   ·exact h.elim
  ·rename_i len e l kd q hu hx hy
   split at h
   ·rename_i m hs
    split at h
    ·rename_i a ha;exact ok (DM bC hu hx hy hs ha h.1 h.2.1) (bQ bC fun c e=>by cases e) h.2.2
    ·exact h.elim
   ·exact h.elim
  ·exact h.elim
 |slice t x lo hi mx =>
  rw [bC] at h
  obtain⟨r,S',hr,hK⟩:=JZ (n:=n) bC h
  exact ok hr (bQ bC fun c e=>by cases e) hK
 |extract x i =>
  rw [bC] at h
  simp only [bm,bp] at h
  split at h
  ·rename_i l hx
   split at h
   ·rename_i a ha;exact ok (E1 bC hx ha) (bQ bC fun c e=>by cases e) h
   ·exact h.elim
  ·exact h.elim
 |makeSlice t l c =>
  rw [bC] at h
  simp only [bm,bp] at h
  split at h
  ·rename_i e ka a kb b he hl hc
   split at h
   ·rename_i z sz by_ hz hs j4
    split at h
    ·rename_i hb
     simp only [Bool.and_eq_true] at hb
     obtain⟨h1,rfl,h2,h3,hK⟩:=h
     have hu:P.underlying t=some (.slice e):=by
      unfold fJ at he
      split at he
      ·rename_i e' hu;rw [hu,Option.some.inj he]
      ·cases he
     exact ok (J4 bC hu hz hs j4 (Nat.eq_of_beq_eq_true hb.1) (Nat.lt_of_lt_of_le Nat.zero_lt_one (Nat.le_of_ble_eq_true hb.2)) hl hc h1 h2 h3) (bQ bC fun c e=>by cases e) hK
    ·exact h.elim
   ·exact h.elim
  ·exact h.elim
 |range t x =>
  rw [bC] at h
  simp only [bm] at h
  split at h
  ·rename_i s hu hx
   exact ok (Ei bC hu hx) (bQ bC fun c e=>by cases e) h
  ·exact h.elim
 |next x isStr =>
  rw [bC] at h
  simp only [bm] at h
  split at h
  ·rename_i k sz hx
   obtain⟨⟨s,pos⟩,hk,d,hd,h⟩:=h.out
   have hk:=KJ hk
   cases d with
   |true=>exact ok (Fa bC hx hk (of_decide_eq_true hd)) (bQ bC fun c e=>by cases e) h
   |false=>exact ok (Fb bC hx hk (of_decide_eq_false hd)) (bQ bC fun c e=>by cases e) h
  ·exact h.elim
 |makeFunc f first cap=>rw [bC] at h;exact ok (DI bC) (bQ bC fun c e=>by cases e) h
 |nilCheck x =>
  rw [bC] at h
  simp only [bm,bp] at h
  split at h
  ·rename_i c hx
   have:=By (P:=P) (w0:=w0) (n:=n) (S:=S) bC (.inl ⟨c,hx⟩)
   rw [hx] at this
   exact ok this (bQ bC fun c e=>by cases e) h
  ·rename_i k sz i j hx
   have:=By (P:=P) (w0:=w0) (n:=n) (S:=S) bC (.inr ⟨k,sz,i,j,hx⟩)
   rw [hx] at this
   exact ok this (bQ bC fun c e=>by cases e) h
  ·exact h.elim
 |call c =>
  rw [bC] at h
  simp only [bm,bp] at h
  split at h
  ·rename_i f hc
   unfold wD at h
   split at h
   ·rename_i gf first cap hf
    split at h
    ·rename_i e1 e2
     obtain⟨r,S',bL,hK⟩:=h
     have e1:first=#[]:=by simpa using e1
     have e2:cap=#[]:=by simpa using e2
     subst e1 e2
     refine⟨r,S',Gk bC hc (fun A g a w hS hA=>?_) bL,hK⟩
     have h1:=hA.ev f
     rw [hf] at h1
     refine⟨#[],#[],cd h1,?_⟩
     have e:(#[]:Array Value)++c.args.map a.eval++#[]=c.args.map a.eval:=by simp
     rw [e]
     exact mG hA c.args
    ·exact h.elim
   ·rename_i gf first cap hf
    obtain⟨r,S',bL,hK⟩:=h
    refine⟨r,S',Gk bC hc (fun A g a w hS hA=>?_) bL,hK⟩
    have h1:=hA.ev f
    rw [hf] at h1
    obtain⟨y,hy⟩:∃ y,a.eval f=y:=⟨_,rfl⟩
    rw [hy] at h1
    cases h1 with
    |@fn _ _ _ cs ds p1 p2 p3 p4 =>
     exact⟨cs,ds,hy,fY (fY ⟨p1,p3⟩ (mG hA c.args)) ⟨p2,p4⟩⟩
   ·rename_i k hf
    obtain⟨r,S',aga,hK⟩:=h
    exact⟨r,S',wE bC hc hf aga,hK⟩
   ·exact h.elim
  ·rename_i b hc
   unfold lu at h
   split at h
   ·split at h
    ·rename_i t a fC bD
     obtain⟨x,hx,BT⟩:=Up bD
     unfold bp at h
     split at h
     ·rename_i m hlen
      unfold lenOf at hlen
      split at hlen
      ·rename_i e m' hu hs hm
       obtain rfl:=Option.some.inj hlen
       exact ok (F4 bC hc (toList_one fC) hx BT hm hu (.inl ⟨e,rfl,fun s e=>by rw [e] at hs;cases hs⟩)) (bQ bC fun c e=>by cases e) h
      ·rename_i m' hu hs hm
       obtain rfl:=Option.some.inj hlen
       refine ok (F4 bC hc (toList_one fC) hx BT hm hu (.inr ⟨rfl,?_⟩)) (bQ bC fun c e=>by cases e) h
       unfold isStr at hs
       split at hs
       ·exact⟨_,rfl⟩
       ·cases hs
      ·cases hlen
     ·exact h.elim
    ·exact h.elim
   ·split at h
    ·rename_i t t2 a b fC bD
     obtain⟨x,y,na,BT,LN⟩:=AT bD
     split at h
     ·rename_i e e2 he he2
      split at h
      ·rename_i hz
       obtain⟨more,hm,h⟩:=h.out
       split at hz
       ·rename_i z sz Ej hs
        have elem:∀ {t e:TypeId},fJ P t=some e->P.underlying t=some (.slice e):=by
         intro t e he
         unfold fJ at he
         split at he
         ·rename_i e' hu;rw [hu,Option.some.inj he]
         ·cases he
        obtain⟨r,S',hr,hK⟩:=E5 (n:=n) (w0:=w0) bC hc (toList_two fC) na BT LN (elem he) (elem he2) hm h.1 Ej hs (Nat.eq_of_beq_eq_true hz) h.2
        exact ok hr (bQ bC fun c e=>by cases e) hK
       ·cases hz
      ·exact h.elim
     ·exact h.elim
    ·exact h.elim
   ·split at h
    ·rename_i k a k' b bD
     obtain⟨x,y,na,BT,LN⟩:=AT bD
     split at h
     ·rename_i hk
      obtain rfl:=of_decide_eq_true hk
      exact ok (T_ bC hc na BT LN) (bQ bC fun c e=>by cases e) h
     ·exact h.elim
    ·exact h.elim
   ·split at h
    ·rename_i k a k' b bD
     obtain⟨x,y,na,BT,LN⟩:=AT bD
     split at h
     ·rename_i hk
      obtain rfl:=of_decide_eq_true hk
      exact ok (Ua bC hc na BT LN) (bQ bC fun c e=>by cases e) h
     ·exact h.elim
    ·exact h.elim
   ·exact h.elim
  ·exact h.elim
 |_=>rw [bC] at h;exact h.elim
end
section
variable {P:Program}{w0:World}{rd:Bool}{n:Nat}{o:Oper}{α:AA}{S S':ae}{r:AV}
def pB (P:Program) (w0:World) (n:Nat) (ops:Array Oper) (l:List Nat) (α:AA) (S:ae) (aB:AA) (S':ae):Prop :=
 ∀ (F:Fence) (m:Nat) (A:Nat->Prop) (g:Gh) (a:Act) (w:World) (Q:Exit->Act->World->Prop),iF F->St w0 A g S w->b7 g w n α a ->
  (∀ (a':Act) (w':World) (g':Gh),St w0 A g' S' w'->b7 g' w' n aB a'->Ext A g w g' w'->Q .normal a' w')->wpOpsIn F m P ops Q l a w
theorem kN {g:Gh}{w:World}{a:Act}{x:Value}{b:AV}{d:Option Tmp}(hA:b7 g w n α a) (hd:(match d with|some d=>Nat.blt d n|none=>true)=true) (hx:aL g w b x):b7 g w n (α.put d b) (a.put d x):=by
 cases d with
 |none=>exact hA.M0
 |some d=>exact hA.put (Nat.lt_of_lt_of_le (Nat.lt_succ_self d) (Nat.le_of_ble_eq_true hd)) hx
theorem nK {g:Gh}{w:World}{a:Act}{ops:Array Oper}{j:Nat}{y:Option Bool}(hA:b7 g w n α a) (h:m6 ops α j=some y):yielded ops a.tmps j=y:=by
 unfold m6 at h
 unfold yielded
 split at h
 ·rename_i t ht
  have key:∀ x,α.tm t=.v x->a.tmps[t]?=some x:=by
   intro x hc
   have au:t < n:=by
    rcases Nat.lt_or_ge t n with h|h
    ·exact h
    ·have:=hA.out t h;rw [this] at hc;cases hc
   have h1:=hA.tm t au
   rw [hc] at h1
   have h2:=cd h1
   have hs:t < a.tmps.size:=by rw [hA.size];exact au
   rw [Array.getElem?_eq_getElem hs]
   rw [Array.getD_eq_getD_getElem?,Array.getElem?_eq_getElem hs] at h2
   simpa using h2
  split at h
  ·rename_i c hc
   obtain rfl:=Option.some.inj h
   rw [ht]
   simp [key _ hc]
  ·rename_i c hc
   obtain rfl:=Option.some.inj h
   rw [ht]
   simp [key _ hc]
  ·cases h
 ·cases h
theorem pB.step {ops:Array Oper}{i:Nat}{rest:List Nat}{aB:AA}{bZ:ae}(hi:ops[i]?=some o) (hd:(match o.dst with|some d=>Nat.blt d n|none=>true)=true)
  (hw:∀ (g:Gh) (w:World) (a:Act),b7 g w n α a->Region.wanted o (yielded ops a.tmps)=true) (h:eB P w0 n o α S r bZ) (k:pB P w0 n ops rest (α.put o.dst r) bZ aB S'):pB P w0 n ops (i::rest) α S aB S':=by
 intro F m A g a w Q hF hS hA hQ
 simp only [wpOpsIn,hi]
 rw [if_pos (hw g w a hA)]
 refine⟨fun f _=>hF.1 f,h F m A g a w _ Q hF hS hA fun v w' g' hr iu hE=>?_⟩
 exact k F m A g' _ w' Q hF iu (kN (hA.later hE.toLater) hd hr) fun a' rB tn h1 h2 h3=>hQ a' rB tn h1 h2 (hE.trans h3)
theorem cy.region {id:Nat}{ops:Array Oper}{aB:AA}(h:pB P w0 n ops (List.range ops.size) α S aB S'):cy P w0 rd n (.region id ops false) α S .normal aB S' :=
 fun F m A g a w hF hR hS hA=>wpIn_region (h F m A g a w _ hF hS hA fun a' w' g' h1 h2 h3=>⟨rfl,g',h1,h2,h3⟩)
def J5 (P:Program) (α:AA) (S:ae):ResultVar->Option AV
 |.tmp t=>some (α.tm t)
 |.cell a t=>r7 P S t (α.tm a)
def vY (P:Program) (α:AA) (S:ae):List ResultVar->Option (List AV)
 |[]=>some []
 |r::rs=>match J5 P α S r with
  |some a=>match vY P α S rs with|some l=>some (a::l)|none=>none
  |none=>none
def yw (P:Program) (rs:Array ResultVar) (α:AA) (S:ae):Option AV :=
 match vY P α S rs.toList with
 |some [a]=>some a
 |some l=>some (.bc l)
 |none=>none
def iV (S:ae):List DE->ae
 |[]=>S
 |d::ks=>iV (S.set d.k none) ks
def vT (S:ae):List DE->Bool
 |[]=>true
 |.ob k::ks=>match S.get k with|some .df=>vT (S.set k none) ks|_=>false
 |.del _ _ _::_=>false
def Ek (P:Program) (rs:Array ResultVar) (R:AV->ae->Prop) (ex:Exit) (α:AA) (S:ae):Prop :=
 match ex with
 |.normal|.ret=>match vT S α.df,yw P rs α (iV S α.df) with
  |true,some r=>R r (iV S α.df)
  |_,_=>False
 |_=>False
def J6 (tmps:Array Value) (rv:ResultVar):Sem Value :=
 match rv with
 |.tmp t=>pure (tmps.getD t undef)
 |.cell c t=>do loadVar t (<-asAddr (tmps.getD c undef))
theorem zJ (fn:Func) (tmps:Array Value):results fn tmps=(do
  let vs <-fn.results.mapM (J6 tmps)
  pure (if h:vs.size=1 then vs[0] else .tuple vs)):=by
 unfold results
 congr 1
theorem J7 {A:Nat->Prop}{g:Gh}{w:World}{a:Act}{rv:ResultVar}{b:AV}(hS:St w0 A g S w) (hA:b7 g w n α a) (h:J5 P α S rv=some b) :
  ∃ x,(J6 a.tmps rv).run P w=.ok x w/\aL g w b x:=by
 have ev:=fun t=>hA.ev (.tmp t)
 cases rv with
 |tmp t =>
  obtain rfl:=Option.some.inj h
  exact⟨_,rfl,ev t⟩
 |cell c t =>
  obtain⟨b',q,x,h1,h2,h3⟩:=w9 (t:=t) hS h (ev c)
  have h1:a.tmps.getD c undef=.pointer (some ⟨b',q,none⟩):=h1
  exact⟨x,by simp [J6,h1,asAddr,h2],h3⟩
theorem uw {A:Nat->Prop}{g:Gh}{w:World}{a:Act}(hS:St w0 A g S w) (hA:b7 g w n α a):∀ {rs:List ResultVar}{l:List AV},vY P α S rs=some l ->
  ∃ xs:List Value,(rs.mapM (J6 a.tmps)).run P w=.ok xs w/\xs.length=l.length/\∀ (i:Nat) (b:AV) (x:Value),l[i]?=some b->xs[i]?=some x->aL g w b x
 |[],l,h=>by
  obtain rfl:=Option.some.inj h
  exact⟨[],by simp,rfl,fun i b x h=>by simp at h⟩
 |rv::rs,l,h=>by
  simp only [vY] at h
  split at h
  ·rename_i b hb
   split at h
   ·rename_i l' hl
    obtain rfl:=Option.some.inj h
    obtain⟨x,h1,h2⟩:=J7 hS hA hb
    obtain⟨xs,h3,h4,h5⟩:=uw hS hA hl
    refine⟨x::xs,?_,by simp [h4],fun i b' y Gm hy=>?_⟩
    ·rw [List.mapM_cons]
     simp only [Sem.run_bind]
     rw [h1]
     simp only [Result.andThen_ok,Sem.run_bind]
     rw [h3]
     rfl
    ·cases i with
     |zero=>simp at Gm hy;subst Gm hy;exact h2
     |succ i=>simp at Gm hy;exact h5 i b' y Gm hy
   ·cases h
  ·cases h
theorem J8 {A:Nat->Prop}{g:Gh}{w:World}{a:Act}{fn:Func}{b:AV}(hS:St w0 A g S w) (hA:b7 g w n α a) (h:yw P fn.results α S=some b):∃ x,(results fn a.tmps).run P w=.ok x w/\aL g w b x:=by
 have e:∀ {l:List AV}{xs:List Value},xs.length=l.length->(∀ (i:Nat) (b:AV) (x:Value),l[i]?=some b->xs[i]?=some x->aL g w b x)->(xs.toArray.size=1->∃ a,l=[a])/\aL g w (.bc l) (.tuple xs.toArray):=by
  intro l xs h1 h2
  refine⟨fun h3=>?_,.bc (by simpa using h1) (fun i b x hb hx=>h2 i b x hb (by simpa using hx))⟩
  match l,h1 with
  |[a],_=>exact⟨a,rfl⟩
  |[],h1=>simp only [List.size_toArray,h1,List.length_nil] at h3;cases h3
  |_::_::_,h1=>simp only [List.size_toArray,h1,List.length_cons] at h3;omega
 unfold yw at h
 split at h
 ·rename_i a0 hl
  obtain rfl:=Option.some.inj h
  obtain⟨xs,h1,h2,h3⟩:=uw hS hA hl
  clear e
  match xs,h2,h1,h3 with
  |[x],_,h1,h3 =>
   refine⟨x,?_,h3 0 _ x rfl rfl⟩
   simp only [zJ,Array.mapM_eq_mapM_toList,Sem.run_bind,Sem.run_map]
   rw [h1]
   rfl
 ·rename_i l bH hl
  obtain rfl:=Option.some.inj h
  obtain⟨xs,h1,h2,h3⟩:=uw hS hA hl
  obtain⟨e1,e2⟩:=e h2 h3
  refine⟨_,?_,e2⟩
  have hs:¬ xs.toArray.size=1:=fun h=>by obtain⟨a,rfl⟩:=e1 h;exact bH a rfl
  simp only [zJ,Array.mapM_eq_mapM_toList,Sem.run_bind,Sem.run_map]
  rw [h1]
  simp only [Result.andThen_ok,dif_neg hs]
  rfl
 ·cases h
end
end Go.Proofs.YtgphljokbodciaaGreat
