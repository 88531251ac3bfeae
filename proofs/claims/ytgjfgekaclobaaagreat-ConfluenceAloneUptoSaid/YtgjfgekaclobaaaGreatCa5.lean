import Derived.Laws.MakeOwn
import Derived.Laws.RangeAny
import Derived.Test.YtgjfgekaclobaaaGreatCa4
namespace Go.Proofs.YtgjfgekaclobaaaGreat
set_option linter.unusedVariables false
set_option linter.unusedSimpArgs false
open Go.RowKit
section
variable {P:Program}{w0:World}{n:Nat}{o:Oper}{α:AA}{S S':ad}{r:AV}
theorem run_sliceBound {w:World}{kd:IntKind}{i:Int}{y:Nat}{code:BoundsCode}(h0:0<=i) (h:i<=y):(Instr.sliceBound (.int kd i) y code).run P w=.ok i.toNat w:=by
 simp [Instr.sliceBound,asIntOf,h0,h]
theorem AQ {g:Gh}{w:World}{a:Act}(hA:bN g w n α a) {lo:Option Operand}{d l:Int}(h:kh (lo.map α.ev) d=some l):(lo=none/\l=d)\/∃ x kd,lo=some x/\a.eval x=.int kd l:=by
 cases lo with
 |none=>simp [kh] at h;exact .inl ⟨rfl,h.symm⟩
 |some x =>
  right
  have h1:=hA.ev x
  simp only [Option.map_some,kh] at h
  split at h
  ·rename_i e
   simp at e
  ·rename_i kd i e
   simp only [oI_] at e h
   rw [e] at h1
   exact⟨x,kd,rfl,by rw [bO h1,h]⟩
  ·cases h
theorem kU {g:Gh}{w:World}{a:Act}(hA:bN g w n α a) {isSl:Bool}{len cap:Nat}{lo hi:Option Operand}{l h:Int}(hl:kh (lo.map α.ev) 0=some l) (hh:kh (hi.map α.ev) len=some h) (h0:0<=l) (h1:l<=h) (h2:h<=cap) :
  (Instr.sliceBounds isSl len cap (lo.map a.eval) (hi.map a.eval) none).run P w=.ok (l.toNat,h.toNat,cap) w:=by
 have zQ:∀ code (w:World),(match lo.map a.eval with|some v=>Instr.sliceBound v h.toNat code|none=>pure 0:Sem Nat).run P w=.ok l.toNat w:=by
  intro code w
  rcases AQ hA hl with ⟨rfl,rfl⟩|⟨x,kd,rfl,hx⟩
  ·rfl
  ·simp only [Option.map_some,hx]
   exact run_sliceBound h0 (by omega)
 rcases AQ hA hh with ⟨rfl,rfl⟩|⟨x,kd,rfl,hx⟩
 ·have:=zQ .sliceB w
  simp only [Int.toNat_natCast] at this ⊢
  cases lo with
  |none=>simp only [Option.map_none] at this ⊢;simp [Instr.sliceBounds];simpa using this
  |some y=>simp only [Option.map_some,Option.map_none] at this ⊢;simp [Instr.sliceBounds,this]
 ·have:=zQ .sliceB w
  have hb:=fun code=>run_sliceBound (P:=P) (w:=w) (kd:=kd) (i:=h) (y:=cap) (code:=code) (by omega) h2
  cases lo with
  |none=>simp only [Option.map_none,Option.map_some,hx] at this ⊢;simp [Instr.sliceBounds,hb];simpa using this
  |some y=>simp only [Option.map_some,hx] at this ⊢;simp [Instr.sliceBounds,hb,this]
theorem zR {g:Gh}{w:World}{a:Act}(hA:bN g w n α a) {isSl:Bool}{len cap:Nat}{lo:Option Operand}{x y:Operand}{k1 k2:IntKind}{l h m:Int}(hl:kh (lo.map α.ev) 0=some l) (hx:a.eval x=.int k1 h) (hy:a.eval y=.int k2 m) (h0:0<=l) (h1:l<=h) (h2:h<=m) (h3:m<=cap) :
  (Instr.sliceBounds isSl len cap (lo.map a.eval) (some (a.eval x)) (some (a.eval y))).run P w=.ok (l.toNat,h.toNat,m.toNat) w:=by
 have hb:=fun code=>run_sliceBound (P:=P) (w:=w) (kd:=k2) (i:=m) (y:=cap) (code:=code) (by omega) h3
 have eg:=fun code=>run_sliceBound (P:=P) (w:=w) (kd:=k1) (i:=h) (y:=m.toNat) (code:=code) (by omega) (by omega)
 rcases AQ hA hl with ⟨rfl,rfl⟩|⟨z,kd,rfl,hz⟩
 ·simp [Instr.sliceBounds,hx,hy,hb,eg]
 ·have oq:=fun code=>run_sliceBound (P:=P) (w:=w) (kd:=kd) (i:=l) (y:=h.toNat) (code:=code) h0 (by omega)
  simp [Instr.sliceBounds,hx,hy,hz,hb,eg,oq]
theorem Jz {g:Gh}{w:World}{ex ex':Bool}{rows:List (List AV)}{B:Option Addr}{c sz l h m:Nat}(hr:aH g w (.sl ex rows) (.slice B rows.length c)) (hl:∀ row ∈ rows,row.length=sz) (h1:l<=h) (h2:h<=rows.length) (h3:h<=m) (hex:ex'=true->m=h) :
  aH g w (.sl ex' ((rows.take h).drop l)) (.slice (if m=l then B else B.map (·.add (l*sz))) (h - l) (m - l)):=by
 have hlen:((rows.take h).drop l).length=h - l:=by simp;omega
 by_cases c0:h=l
 ·subst c0
  have e:(rows.take h).drop h=[]:=by apply List.drop_eq_nil_of_le;simp;omega
  rw [e,Nat.sub_self]
  exact .nil (fun h=>by rw [hex h,Nat.sub_self])
 ·cases hr with
  |nil hc=>simp at h2;omega
  |@sl _ _ b q sz' _ val hn hc hle l8 p1 p2 =>
   have e:sz'=sz:=by
    have aA:0 < rows.length:=List.length_pos_iff.2 hn
    have a1:=l8 0 _ (List.getElem?_eq_getElem aA)
    have a2:=hl _ (List.getElem_mem aA)
    omega
   subst e
   have jj:∀ (i:Nat) (row:List AV),((rows.take h).drop l)[i]?=some row->rows[l+i]?=some row:=by
    intro i row hi
    rw [List.getElem?_drop,List.getElem?_take] at hi
    split at hi
    ·exact hi
    ·cases hi
   have:=aH.sl (g:=g) (w:=w) (ex:=ex') (rows:=(rows.take h).drop l) (b:=b) (o:=q+l*sz') (sz:=sz') (c:=m - l) (val:=fun i j=>val (l+i) j) (fun e=>by rw [e] at hlen;simp at hlen;omega) (fun h=>by rw [hlen,hex h]) (by rw [hlen];omega)
    (fun i row hi=>l8 _ row (jj i row hi)) (fun i j row a hi hj=>by
     have:=p1 (l+i) j row a (jj i row hi) hj
     rwa [Nat.add_mul,show q+(l*sz'+i*sz'+j)=q+l*sz'+(i*sz'+j) by omega] at this) (fun i j row a hi hj=>p2 (l+i) j row a (jj i row hi) hj)
   rw [hlen] at this
   rw [if_neg (by omega)]
   simpa [fh] using this
theorem vE {t:TypeId}{d:TypeDesc}{w:World}(hu:P.underlying t=some d) (hd:∀ k e,d ≠ .array k e) (x:Value) (lo hi mx:Option Value):(Instr.sliceAt t x lo hi mx).run P w=(Instr.slice t x lo hi mx).run P w:=by
 simp only [Instr.sliceAt,Sem.run_bind,run_underlying hu,Result.andThen_ok]
theorem NC {t:TypeId}{x:Operand}{lo hi mx:Option Operand}{K:AV->ad->Prop}(ho:o.op=.slice t x lo hi mx) (h:kZ P t K S (α.ev x) (lo.map α.ev) (hi.map α.ev) (mx.map α.ev)):∃ r S',aS P w0 n o α S r S'/\K r S':=by
 have fin:∀ (r:AV) {d:TypeDesc},P.underlying t=some d->(∀ k e,d ≠ .array k e)->(∀ (A:Nat->Prop) (g:Gh) (a:Act) (w:World),St w0 A g S w->bN g w n α a->∃ v,(Instr.slice t (a.eval x) (lo.map a.eval) (hi.map a.eval) (mx.map a.eval)).run P w=.ok v w/\aH g w r v)->K r S->∃ r S',aS P w0 n o α S r S'/\K r S':=by
  intro r d hu hd bY hK
  refine⟨r,S,aS.quiet fun A g a w hS hA=>?_,hK⟩
  obtain⟨v,h1,h2⟩:=bY A g a w hS hA
  refine⟨v,?_,h2⟩
  simp only [execOp,ho,Sem.run_bind,vE hu hd,h1,Result.andThen_ok]
  rfl
 unfold kZ at h
 split at h
 ·rename_i s uJ V1
  split at h
  ·rename_i l hh hu hl uF
   obtain⟨h0,h1,h2,hK⟩:=h
   refine fin _ hu (fun k e h=>by cases h) (fun A g a w hS hA=>?_) hK
   have hx:=hA.ev x
   rw [uJ] at hx
   have hm:mx=none:=by cases mx<;>simp_all
   subst hm
   refine⟨_,?_,.v⟩
   have:=kU (P:=P) (isSl:=false) (cap:=s.size) (w:=w) hA hl uF h0 h1 (by omega)
   simp [Instr.slice,bO hx,run_underlying hu,this]
  ·exact h.elim
 ·rename_i ex rows uJ V1
  split at h
  ·rename_i e l hh hu hl uF
   obtain⟨sM,ND,h0,h1,h2,hK⟩:=h
   obtain⟨sz,hs⟩:=Option.isSome_iff_exists.1 ND
   refine fin _ hu (fun k e h=>by cases h) (fun A g a w hS hA=>?_) hK
   have hx:=hA.ev x
   rw [uJ] at hx
   have hm:mx=none:=by cases mx<;>simp_all
   subst hm
   obtain⟨B,c,e1,hle,_⟩:=oM hx
   rw [e1] at hx
   have hb:=kU (P:=P) (isSl:=true) (cap:=c) (w:=w) hA hl uF h0 h1 (by omega)
   refine⟨_,?_,Jz (ex':=false) (m:=c) hx (fun row hr=>by have:=sM row hr;rw [hs] at this;exact (oJ_ this).symm) (show l.toNat<=hh.toNat by omega) (by omega) (by omega) (fun h=>by cases h)⟩
   simp [Instr.slice,e1,run_underlying hu,hb,cA hs]
  ·exact h.elim
 ·rename_i ex rows kd m uJ V1
  split at h
  ·rename_i e l kd2 hh hu hl uF
   obtain⟨sM,ND,h0,h1,rfl,h2,hK⟩:=h
   obtain⟨sz,hs⟩:=Option.isSome_iff_exists.1 ND
   refine fin _ hu (fun k e h=>by cases h) (fun A g a w hS hA=>?_) hK
   have hx:=hA.ev x
   rw [uJ] at hx
   obtain⟨y,rfl,hy⟩:∃ y,mx=some y/\α.ev y=.v (.int kd hh):=by cases mx<;>simp_all
   obtain⟨z,rfl,hz⟩:∃ z,hi=some z/\α.ev z=.v (.int kd2 hh):=by cases hi<;>simp_all
   have e2:=hA.ev y
   have e3:=hA.ev z
   rw [hy] at e2
   rw [hz] at e3
   obtain⟨B,c,e1,hle,_⟩:=oM hx
   rw [e1] at hx
   have hb:=zR (P:=P) (isSl:=true) (len:=rows.length) (cap:=c) (w:=w) hA hl (bO e3) (bO e2) h0 h1 (Int.le_refl _) (by omega)
   refine⟨_,?_,Jz (ex':=true) (m:=hh.toNat) hx (fun row hr=>by have:=sM row hr;rw [hs] at this;exact (oJ_ this).symm) (show l.toNat<=hh.toNat by omega) (by omega) (Nat.le_refl _) (fun _=>rfl)⟩
   simp only [Option.map_some]
   simp [Instr.slice,e1,run_underlying hu,hb,cA hs]
  ·exact h.elim
 ·rename_i k sz off len cx uJ V1
  split at h
  ·rename_i e hh hu zQ uF
   obtain⟨hs,h0,h1,hK⟩:=h
   refine fin _ hu (fun k e h=>by cases h) (fun A g a w hS hA=>?_) hK
   have hx:=hA.ev x
   rw [uJ] at hx
   have hm:mx=none:=by cases mx<;>simp_all
   subst hm
   obtain⟨c,e1,aO,hc,hp,jw,hle⟩:=h_ hx
   have hl:kh (lo.map α.ev) 0=some 0:=by rw [zQ];rfl
   have hb:=kU (P:=P) (isSl:=true) (cap:=c) (w:=w) hA hl uF (Int.le_refl _) h0 (by omega)
   have iR:(Instr.slice t (a.eval x) (lo.map a.eval) (hi.map a.eval) (Option.map a.eval none)).run P w=.ok (.slice (some ⟨g.ob k,off*sz,none⟩) hh.toNat c) w:=by
    simp [Instr.slice,e1,run_underlying hu,hb,cA hs,fh]
   exact⟨_,iR,.ob aO hc hp jw (by omega)⟩
  ·rename_i e kd l hh hu zQ uF
   obtain⟨hs,h0,h1,h2,hK1,Ed⟩:=h
   have hl:kh (lo.map α.ev) 0=some l:=by rw [zQ];rfl
   by_cases c0:l=hh
   ·refine fin _ hu (fun k e h=>by cases h) (fun A g a w hS hA=>?_) (hK1 c0)
    have hx:=hA.ev x
    rw [uJ] at hx
    have hm:mx=none:=by cases mx<;>simp_all
    subst hm
    obtain⟨c,e1,aO,hc,hp,jw,hle⟩:=h_ hx
    have hb:=kU (P:=P) (isSl:=true) (cap:=c) (w:=w) hA hl uF h0 h1 (by omega)
    have iR:(Instr.slice t (a.eval x) (lo.map a.eval) (hi.map a.eval) (Option.map a.eval none)).run P w=.ok (.slice (if c=l.toNat then some ⟨g.ob k,off*sz,none⟩ else (some ⟨g.ob k,off*sz,none⟩:Option Addr).map (·.add (l.toNat*sz))) 0 (c - l.toNat)) w:=by
     simp [Instr.slice,e1,run_underlying hu,hb,cA hs,c0]
    exact⟨_,iR,.nil (fun h=>by cases h)⟩
   ·refine fin _ hu (fun k e h=>by cases h) (fun A g a w hS hA=>?_) (Ed (by omega))
    have hx:=hA.ev x
    rw [uJ] at hx
    have hm:mx=none:=by cases mx<;>simp_all
    subst hm
    obtain⟨c,e1,aO,hc,hp,jw,hle⟩:=h_ hx
    have hb:=kU (P:=P) (isSl:=true) (cap:=c) (w:=w) hA hl uF h0 h1 (by omega)
    have a_:¬ c=l.toNat:=by omega
    have iR:(Instr.slice t (a.eval x) (lo.map a.eval) (hi.map a.eval) (Option.map a.eval none)).run P w=.ok (.slice (some ⟨g.ob k,(off+l.toNat)*sz,none⟩) (hh.toNat - l.toNat) (c - l.toNat)) w:=by
     simp [Instr.slice,e1,run_underlying hu,hb,cA hs,a_,fh,Nat.add_mul]
    refine⟨_,iR,.ob aO (fun m hm=>?_) (by omega) (fun hm=>?_) (by omega)⟩
    ·cases cx with
     |none=>simp at hm
     |some c'=>simp at hm;have:=hc c' rfl;omega
    ·cases cx with
     |none=>have:=jw rfl;omega
     |some c'=>simp at hm
  ·exact h.elim
 ·rename_i k sz off len cx kd m uJ V1
  split at h
  ·rename_i e l kd2 hh hu hl uF
   obtain⟨hs,rfl,rfl,h1,h0,hK⟩:=h
   refine fin _ hu (fun k e h=>by cases h) (fun A g a w hS hA=>?_) hK
   have hx:=hA.ev x
   rw [uJ] at hx
   obtain⟨y,rfl,hy⟩:∃ y,mx=some y/\α.ev y=.v (.int kd hh):=by cases mx<;>simp_all
   obtain⟨z,rfl,hz⟩:∃ z,hi=some z/\α.ev z=.v (.int kd2 hh):=by cases hi<;>simp_all
   have e2:=hA.ev y
   have e3:=hA.ev z
   rw [hy] at e2
   rw [hz] at e3
   obtain⟨c,e1,aO,hc,hp,jw,hle⟩:=h_ hx
   have hb:=zR (P:=P) (isSl:=true) (len:=len) (cap:=c) (w:=w) hA hl (bO e3) (bO e2) (Int.le_refl _) h0 (Int.le_refl _) (by omega)
   have iR:(Instr.slice t (a.eval x) (lo.map a.eval) (some (a.eval z)) (some (a.eval y))).run P w=.ok (.slice (some ⟨g.ob k,off*sz,none⟩) hh.toNat hh.toNat) w:=by
    simp [Instr.slice,e1,run_underlying hu,hb,cA hs,fh]
   exact⟨_,iR,.ob aO (fun m hm=>by simp at hm;exact hm) (by omega) (fun h=>by cases h) (Nat.le_refl _)⟩
  ·exact h.elim
 ·exact h.elim
end
section
variable {P:Program}{w0:World}{n:Nat}{o:Oper}{α:AA}{S S':ad}{r:AV}
theorem St.putObj {A:Nat->Prop}{g:Gh}{w:World}{k:Nat}{o ob:Ob}(hS:St w0 A g S w) (hk:S.get k=some o) (ha:g.al k) (tN:∀ J,o ≠ .fo J/\ob ≠ .fo J) {x':Obj}{w':World}(lR:w'={ w with heap:=w.heap.setIfInBounds (g.ob k) x' })
  (hc:∀ q,w'.cell? ⟨g.ob k,q,none⟩=w.cell? ⟨g.ob k,q,none⟩) (iI:Later g w g w'->w'.heap[g.ob k]?=some x'->dA g w' (g.ob k) (g.cp k) ob):Ext A g w g w'/\St w0 A g (S.set k (some ob)) w':=by
 obtain⟨k2,k3,k4⟩:=hS.bR k o hk ha
 have bh:w'.heap.size=w.heap.size:=by rw [lR];simp
 have vP:∀ b,b ≠ g.ob k->w'.heap[b]?=w.heap[b]?:=by
  intro b hb
  rw [lR]
  simp only [Array.getElem?_setIfInBounds]
  rw [if_neg (Ne.symm hb)]
 have qN:w'.heap[g.ob k]?=some x':=by
  rw [lR]
  simp [Array.getElem?_setIfInBounds,k3]
 have kI:∀ b q,w'.cell? ⟨b,q,none⟩=w.cell? ⟨b,q,none⟩:=by
  intro b q
  by_cases e:b=g.ob k
  ·subst e;exact hc q
  ·exact World.cell?_of_block (vP b e)
 have hL:Later g w g w':=⟨fun _ h=>h,fun _ _=>rfl,fun _ _=>rfl,fun _ _ h=>h,fun b q _=>kI b q⟩
 have hE:Ext A g w g w':={ hL with size:=by rw [bh];exact Nat.le_refl _,a7:=fun b hb hA=>vP b (fun e=>hA (by rw [e];exact k2)),gF:=fun _ _ h=>.inl h }
 have key:∀ l r,(S.set k (some ob)).get l=some r->(l=k/\r=ob)\/(l ≠ k/\S.get l=some r):=by
  intro l r hl
  have hl:a8 S.get k (some ob) l=some r:=hl
  by_cases e:l=k
  ·subst e
   rw [aq] at hl
   exact .inl ⟨rfl,(oJ_ hl).symm⟩
  ·rw [aC _ _ e] at hl
   exact .inr ⟨e,hl⟩
 refine⟨hE,hS.next hE (by rw [lR]) (by rw [lR]) (by rw [lR]) hS.al (fun j p hj aj=>?_) (fun i j p q hi hj ai aj e=>?_) (fun b q hf=>by rw [bh];exact hS.cC b q hf) rfl (fun j J hj aj=>(key j _ hj).elim (fun e=>absurd e.2.symm (tN J).2) fun e=>⟨e.2,aj⟩) (fun j p hj aj=>.inr ((key j p hj).elim (fun e=>⟨j,o,aj,e.1.symm ▸ hk,rfl,.inl rfl⟩) fun e=>⟨j,p,aj,e.2,rfl,.inl rfl⟩))⟩
 ·rcases key j p hj with ⟨rfl,rfl⟩|⟨a_,hj⟩
  ·exact⟨k2,by rw [bh];exact k3,iI hL qN⟩
  ·obtain⟨h2,h3,h4⟩:=hS.bR j p hj aj
   exact⟨h2,by rw [bh];exact h3,h4.later hL (vP _ (fun e=>a_ (hS.inj j k p _ hj hk aj ha e))) (fun _ h=>h) fun J hJ=>⟨rfl,by rw [bh];exact Nat.le_refl _,fun c hc=>vP c fun e=>hS.jW j J k o (by rw [<-hJ];exact hj) aj hk ha (fun e'=>a_ e'.symm) (by rw [<-e];exact hc),fun _ _ _ h=>h⟩⟩
 ·rcases key i p hi with ⟨rfl,_⟩|⟨h1,kW⟩<;>rcases key j q hj with ⟨rfl,_⟩|⟨h2,eN⟩
  ·rfl
  ·exact hS.inj i j _ q hk eN ai aj e
  ·exact hS.inj i j p _ kW hk ai aj e
  ·exact hS.inj i j p q kW eN ai aj e
theorem NF {t e:TypeId}{l c:Operand}{z:Value}{sz by_:Nat}{ka kb:IntKind}{a:Int}(ho:o.op=.makeSlice t l c) (ht:P.underlying t=some (.slice e)) (hz:cU P e=some z) (hs:cP P e=some sz) (jn:gV P e=some by_)
  (lT:z.cells.size=sz) (hs0:0 < sz) (hl:α.ev l=.v (.int ka a)) (hc:α.ev c=.v (.int kb a)) (h1:0<=a) (h2:a*by_<=35184372088832) (h3:a<=9223372036854775807) :
  aS P w0 n o α S (.ob S.nx sz 0 a.toNat none) (S.new (.arr sz (List.replicate a.toNat (z.cells.toList.map bJ)) 0 true)):=by
 intro A g q w hS hA
 obtain⟨i,hi,bh⟩:=ji hs
 have qB:i.zero=some z:=by unfold cU at hz;rw [hi] at hz;simpa using hz
 have zx:i.bytes=by_:=by unfold gV at jn;rw [hi] at jn;simpa using jn
 have fE:=hA.ev l
 have Bx:=hA.ev c
 rw [hl] at fE
 rw [hc] at Bx
 have fE:=bO fE
 have Bx:=bO Bx
 have bY:=run_make (P:=P) w t e i z ht hi qB ka kb a a h1 (Int.le_refl _) (by rw [zx,Int.mul_comm];omega) h3
 have r6:∀ q,¬ g.fz w.heap.size q:=fun q hf=>absurd (hS.cC _ _ hf) (Nat.lt_irrefl _)
 obtain⟨hE,cQ⟩:=hS.new (.cells (madeCells z.cells (a.toNat*i.size)) e) (.arr sz (List.replicate a.toNat (z.cells.toList.map bJ)) 0 true) a.toNat (fun J=>by simp) (fun hL=>by
  refine⟨_,e,c_,?_,by simp,fun _=>by simp,fun m row hr=>?_,Nat.zero_le _,fun q=>⟨fun h=>absurd h (r6 q),fun h=>by simp at h⟩⟩
  ·rw [size_madeCells,bh]
  ·obtain⟨fA,rfl⟩:=List.getElem?_eq_some_iff.1 hr
   simp only [List.length_replicate] at fA
   simp only [List.getElem_replicate]
   refine⟨by simp [lT],fun j b hj=>?_⟩
   simp only [List.getElem?_map,Option.map_eq_some_iff] at hj
   obtain⟨y,hy,rfl⟩:=hj
   have xy:j < sz:=by
    have:=(List.getElem?_eq_some_iff.1 hy).1
    simp at this
    omega
   refine⟨y,?_,kF y⟩
   have aA:m*sz+j < a.toNat*sz:=kr fA xy
   have eN:j < z.cells.size:=by omega
   have e1:(m*sz+j) % z.cells.size=j:=by
    rw [lT,Nat.mul_comm,Nat.mul_add_mod]
    exact Nat.mod_eq_of_lt xy
   have e2:(madeCells z.cells (a.toNat*i.size))[m*sz+j]?=some (z.cells[(m*sz+j) % z.cells.size]!):=by
    unfold madeCells
    rw [Array.getElem?_map,Array.getElem?_range,if_pos (by rw [bh];exact aA)]
    rfl
   rw [e2,e1,getElem!_pos z.cells j eN,<-hy,Array.getElem?_toList,Array.getElem?_eq_getElem eN])
 refine⟨.slice (some ⟨w.heap.size,0,none⟩) a.toNat a.toNat,_,_,.inl ?_,?_,cQ,hE⟩
 ·simp only [execOp,ho,fE,Bx,Sem.run_bind,bY]
  rfl
 ·have:=aH.ob (g:=g.new S.nx w.heap.size a.toNat) (w:=w.alloc (.cells (madeCells z.cells (a.toNat*i.size)) e)) (k:=S.nx) (sz:=sz) (off:=0) (len:=a.toNat) (c:=a.toNat) (cx:=none) (.inr rfl) (fun m h=>by cases h)
   (by rw [Nat.zero_add];exact Nat.le_of_eq (aq _ _ _).symm) (fun _=>by rw [Nat.zero_add];exact (aq _ _ _).symm) (Nat.le_refl _)
  rw [show (g.new S.nx w.heap.size a.toNat).ob S.nx=w.heap.size from aq _ _ _,Nat.zero_mul] at this
  exact this
theorem HG {t:TypeId}{x:Operand}{s:ByteArray}(ho:o.op=.range t x) (hu:P.underlying t=some .string) (hx:α.ev x=.v (.string s)):aS P w0 n o α S (.pt S.nx 0 0 0) (S.new (.si s 0)):=by
 intro A g a w hS hA
 have h1:=hA.ev x
 rw [hx] at h1
 have h1:=bO h1
 obtain⟨hE,cQ⟩:=hS.new (.stringIter s 0) (.si s 0) 0 (fun J=>by simp) (fun hL=>c_)
 refine⟨.pointer (some ⟨w.heap.size,0,none⟩),_,_,.inl ?_,?_,cQ,hE⟩
 ·simp only [execOp,ho,h1,Sem.run_bind,run_range_string w t s hu]
  rfl
 ·have:=aH.pt (g:=g.new S.nx w.heap.size 0) (w:=w.alloc (.stringIter s 0)) (k:=S.nx) (sz:=0) (i:=0) (j:=0) (.inr rfl)
  rw [show (g.new S.nx w.heap.size 0).ob S.nx=w.heap.size from aq _ _ _] at this
  simpa using this
theorem JA {g:Gh}{w:World}{k sz:Nat}{v:Value}(h:aH g w (.pt k sz 0 0) v):v=.pointer (some ⟨g.ob k,0,none⟩)/\g.al k:=by
 cases h with
 |pt hk=>exact⟨by simp,hk⟩
theorem Ib {x:Operand}{k sz pos:Nat}{s:ByteArray}(ho:o.op=.next x true) (hx:α.ev x=.pt k sz 0 0) (hk:S.get k=some (.si s pos)) (h:pos < s.size) :
  aS P w0 n o α S (.aE [.v (.bool true),.v (.int .i64 pos),.v (.int .i32 (Utf8.decode s pos).1)]) (S.set k (some (.si s (pos+(Utf8.decode s pos).2)))):=by
 intro A g a w hS hA
 have h1:=hA.ev x
 rw [hx] at h1
 obtain⟨h1,ha⟩:=JA h1
 obtain⟨k2,k3,k4⟩:=hS.bR k _ hk ha
 have k4:w.heap[g.ob k]?=some (.stringIter s pos):=k4
 obtain⟨w',lR⟩:∃ w':World,w'={ w with heap:=w.heap.setIfInBounds (g.ob k) (.stringIter s (pos+(Utf8.decode s pos).2)) }:=⟨_,rfl⟩
 have qN:w'.heap[g.ob k]?=some (.stringIter s (pos+(Utf8.decode s pos).2)):=by
  rw [lR]
  simp [Array.getElem?_setIfInBounds,k3]
 obtain⟨hE,cQ⟩:=hS.putObj hk ha (fun J=>⟨by simp,by simp⟩) lR (fun q=>by simp [World.cell?,qN,k4]) (ob:=.si s (pos+(Utf8.decode s pos).2)) (fun _ h=>h)
 refine⟨.tuple #[.bool true,.int .i64 pos,.int .i32 (Utf8.decode s pos).1],w',g,.inl ?_,?_,cQ,hE⟩
 ·rw [lR]
  simp [execOp,ho,h1,Instr.next,getObj,setObj,Sem.run,k4,h,goInt]
 ·refine .aE rfl (fun i b y hb hy=>?_)
  match i with
  |0=>simp at hb hy;subst hb hy;exact .v
  |1=>simp at hb hy;subst hb hy;exact .v
  |2=>simp at hb hy;subst hb hy;exact .v
  |i+3=>simp at hb
theorem Ic {x:Operand}{k sz pos:Nat}{s:ByteArray}(ho:o.op=.next x true) (hx:α.ev x=.pt k sz 0 0) (hk:S.get k=some (.si s pos)) (h:¬ pos < s.size):aS P w0 n o α S (.aE [.v (.bool false)]) S :=
 aS.quiet fun A g a w hS hA=>by
  have h1:=hA.ev x
  rw [hx] at h1
  obtain⟨h1,ha⟩:=JA h1
  obtain⟨k2,k3,k4⟩:=hS.bR k _ hk ha
  have k4:w.heap[g.ob k]?=some (.stringIter s pos):=k4
  refine⟨.tuple #[.bool false],?_,?_⟩
  ·simp [execOp,ho,h1,Instr.next,getObj,Sem.run,k4,h]
  ·refine .aE rfl (fun i b y hb hy=>?_)
   match i with
   |0=>simp at hb hy;subst hb hy;exact .v
   |i+1=>simp at hb
end
section
variable {P:Program}{w0:World}{n:Nat}{o:Oper}{α:AA}{S S':ad}{r:AV}
theorem gM {g:Gh}{w:World}{l m:List AV}{xs ys:Array Value}(h:iP g w l xs) (k:iP g w m ys):iP g w (l++m) (xs++ys):=by
 refine⟨by simp [h.1,k.1],fun i a x h1 h2=>?_⟩
 by_cases c:i < l.length
 ·rw [List.getElem?_append_left c] at h1
  rw [Array.getElem?_append_left (by rw [h.1];exact c)] at h2
  exact h.2 i a x h1 h2
 ·rw [List.getElem?_append_right (by omega)] at h1
  rw [Array.getElem?_append_right (by rw [h.1];omega),h.1] at h2
  exact k.2 _ a x h1 h2
theorem JB {c:Call}{f:Operand}{gf:FuncId}{args:List AV}{r:AV}(ho:o.op=.call c) (hc:c.callee=.value f)
  (hf:∀ (A:Nat->Prop) (g:Gh) (a:Act) (w:World),St w0 A g S w->bN g w n α a->∃ first cap,a.eval f=.func (.func gf) first cap/\iP g w args (first++c.args.map a.eval++cap)) (h:aK P w0 gf args S r S'):ef P w0 n o α S r S':=by
 intro F m A g a w next Q hF hS hA nC
 rw [Oper.semAt_eq _ _ _ (fun c' e=>by rw [ho] at e;cases e)]
 obtain⟨first,cap,he,hr⟩:=hf A g a w hS hA
 have bY:(execOp a.eval o).run P w=.ok (.enter gf (first++c.args.map a.eval++cap)) w:=by
  simp only [execOp,ho,resolve,hc,he,Deferred.ofValue,Sem.run_bind,Sem.run_pure,Result.andThen_ok,invoke]
  exact h.1 _ w
 rw [bY,Oper.uponIn_enter]
 refine⟨fun hd=>(by rw [hF.2.1] at hd;cases hd),(h.2 F (m - 1) A g _ w hF hS hr).mono ?_⟩
 rintro e w' ⟨v,g',rfl,h1,h2,h3⟩
 exact nC v w' g' h1 h2 h3
theorem Cu {c:Call}{f:Operand}{k:Nat}{r:AV}(ho:o.op=.call c) (hc:c.callee=.value f) (hf:α.ev f=.yl k) (h:oo P w0 k (c.args.toList.map α.ev) S r S'):ef P w0 n o α S r S':=by
 intro F m A g a w next Q hF hS hA nC
 rw [Oper.semAt_eq _ _ _ (fun c' e=>by rw [ho] at e;cases e)]
 have h1:=hA.ev f
 rw [hf] at h1
 obtain⟨y,hy⟩:∃ y,a.eval f=y:=⟨_,rfl⟩
 rw [hy] at h1
 cases h1 with
 |yl hk =>
  obtain⟨l,fn,tmps,assign,body,ab6,ab7⟩:=h F (m - 1) A g (c.args.map a.eval) w hF hS hk (nL hA c.args)
  have bY:(execOp a.eval o).run P w=.ok (.round l fn tmps assign body) w:=by
   simp only [execOp,ho,resolve,hc,hy,Deferred.ofValue,Sem.run_bind,Sem.run_pure,Result.andThen_ok,invoke]
   simpa using ab6
  rw [bY,Oper.uponIn_round]
  refine⟨fun hd=>(by rw [hF.2.1] at hd;cases hd),ab7.mono ?_⟩
  rintro e w' ⟨v,g',rfl,h1,h2,h3⟩
  exact nC v w' g' h1 h2 h3
theorem YP {β γ:Type}{f:β->γ}{l:Array β}{a:γ}(h:l.toList.map f=[a]):∃ x,l=#[x]/\f x=a:=by
 obtain⟨l⟩:=l
 match l,h with
 |[x],h=>exact⟨x,rfl,by simpa using h⟩
theorem Dr {β γ:Type}{f:β->γ}{l:Array β}{a b:γ}(h:l.toList.map f=[a,b]):∃ x y,l=#[x,y]/\f x=a/\f y=b:=by
 obtain⟨l⟩:=l
 match l,h with
 |[x,y],h=>exact⟨x,y,rfl,by simp at h;exact h.1,by simp at h;exact h.2⟩
theorem bK {op:Op}(ho:o.op=op) (h:∀ c,op ≠ .defer c):∀ c,o.op ≠ .defer c:=fun c e=>h c (ho.symm.trans e)
theorem wz {K:AV->ad->Prop}(h:aX P w0 o.op α S K):∃ r S',ef P w0 n o α S r S'/\K r S':=by
 have ok:∀ {r:AV}{S':ad},aS P w0 n o α S r S'->(∀ c,o.op ≠ .defer c)->K r S'->∃ r S',ef P w0 n o α S r S'/\K r S':=fun hr hd hK=>⟨_,_,hr.ops hd,hK⟩
 cases ba:o.op with
 |move x=>rw [ba] at h;exact ok (run_move (.inl ba)) (bK ba fun c e=>by cases e) h
 |assign x=>rw [ba] at h;exact ok (run_move (.inr ba)) (bK ba fun c e=>by cases e) h
 |pick c a b =>
  rw [ba] at h
  simp only [aX,aZ] at h
  split at h
  ·rename_i t hc
   have hr:=Ru (n:=n) (P:=P) (w0:=w0) (S:=S) ba hc
   cases t with
   |true=>exact ok hr (bK ba fun c e=>by cases e) h
   |false=>exact ok hr (bK ba fun c e=>by cases e) h
  ·exact h.elim
 |alloc e =>
  rw [ba] at h
  simp only [aX,aZ] at h
  split at h
  ·rename_i z hz;exact ok (OU ba hz) (bK ba fun c e=>by cases e) h
  ·exact h.elim
 |box e x =>
  rw [ba] at h
  simp only [aX,aZ] at h
  split at h
  ·rename_i hx;exact ok (Yb ba hx) (bK ba fun c e=>by cases e) h
  ·exact h.elim
 |build t parts =>
  rw [ba] at h
  simp only [aX,aZ] at h
  split at h
  ·rename_i a ha;exact ok (Kk ba ha) (bK ba fun c e=>by cases e) h
  ·exact h.elim
 |buildSlice t len parts =>
  rw [ba] at h
  simp only [aX,aZ] at h
  split at h
  ·rename_i e he
   split at h
   ·rename_i z sz hz hs
    split at h
    ·rename_i hb
     simp only [Bool.and_eq_true] at hb
     obtain⟨⟨b1,b2⟩,b3⟩:=hb
     split at h
     ·rename_i rows hr
      have hu:P.underlying t=some (.slice e):=by
       unfold fJ at he
       split at he
       ·rename_i e' hu;rw [hu,oJ_ he]
       ·cases he
      exact ok (CU ba hu hz hs (Nat.le_of_ble_eq_true b1) (Nat.eq_of_beq_eq_true b2) (Nat.lt_of_lt_of_le Nat.zero_lt_one (Nat.le_of_ble_eq_true b3)) hr) (bK ba fun c e=>by cases e) h
     ·exact h.elim
    ·exact h.elim
   ·exact h.elim
  ·exact h.elim
 |load t x =>
  rw [ba] at h
  simp only [aX,aZ] at h
  split at h
  ·rename_i a ha;exact ok (OV ba ha) (bK ba fun c e=>by cases e) h
  ·exact h.elim
 |store t x b =>
  rw [ba] at h
  simp only [aX,aZ] at h
  split at h
  ·rename_i a ha;exact ok (Kl ba ha) (bK ba fun c e=>by cases e) h
  ·exact h.elim
 |binOp op t x y ty =>
  rw [ba] at h
  simp only [aX,aZ] at h
  split at h
  ·rename_i k a k' b hx hy
   split at h
   ·rename_i c hc
    split at h
    ·rename_i hk
     obtain rfl:=of_decide_eq_true hk
     obtain⟨d,rfl,hK⟩:=h
     exact ok (OW ba hx hy hc) (bK ba fun c e=>by cases e) hK
    ·exact h.elim
   ·split at h
    ·rename_i v hv;exact ok (Ar ba hx hy hv) (bK ba fun c e=>by cases e) h.out
    ·exact h.elim
  ·rename_i a b hx hy
   split at h
   ·exact ok (Km ba hx hy h.1) (bK ba fun c e=>by cases e) h.2
   ·split at h
    ·rename_i v hv;exact ok (Ar ba hx hy hv) (bK ba fun c e=>by cases e) h.out
    ·exact h.elim
  ·rename_i a b n1 n2 hx hy
   split at h
   ·rename_i v hv;exact ok (Ar ba hx hy hv) (bK ba fun c e=>by cases e) h.out
   ·exact h.elim
  ·exact h.elim
 |unOp op t x =>
  rw [ba] at h
  simp only [aX,aZ] at h
  split at h
  ·rename_i b hx;exact ok (Yc ba hx) (bK ba fun c e=>by cases e) h
  ·rename_i k a hx
   obtain⟨d,rfl,hK⟩:=h
   exact ok (Yd ba hx) (bK ba fun c e=>by cases e) hK
  ·exact h.elim
 |convert src dst x =>
  rw [ba] at h
  simp only [aX,aZ] at h
  split at h
  ·rename_i k0 k k' a hs hd hx
   obtain⟨d,rfl,hK⟩:=h
   exact ok (HW ba hs hd hx) (bK ba fun c e=>by cases e) hK
  ·rename_i s hs hd hx
   exact ok (HX ba hs hd hx) (bK ba fun c e=>by cases e) h
  ·exact h.elim
 |fieldAddr s x f =>
  rw [ba] at h
  simp only [aX,aZ] at h
  split at h
  ·rename_i fs hu
   split at h
   ·rename_i fd hf
    split at h
    ·rename_i m hs
     split at h
     ·rename_i row hx;exact ok (HY ba hu hf hs hx) (bK ba fun c e=>by cases e) h
     ·rename_i k sz i j hx;exact ok (HZ ba hu hf hs hx) (bK ba fun c e=>by cases e) h
     ·exact h.elim
    ·exact h.elim
   ·exact h.elim
  ·exact h.elim
 |field t x f =>
  rw [ba] at h
  simp only [aX,aZ] at h
  split at h
  ·rename_i fs hu
   split at h
   ·rename_i fd hf
    split at h
    ·rename_i l hx
     split at h
     ·rename_i a ha;exact ok (Kn ba hu hf hx ha) (bK ba fun c e=>by cases e) h
     ·exact h.elim
    ·exact h.elim
   ·exact h.elim
  ·exact h.elim
 |indexAddr t x i =>
  rw [ba] at h
  simp only [aX,aZ] at h
  split at h
  ·rename_i e ex rows kd k hu hx hy
   split at h
   ·rename_i sz hs
    split at h
    ·rename_i row hi;exact ok (H3 ba hu hx hy hs hi h.1) (bK ba fun c e=>by cases e) h.2
    ·exact h.elim
   ·exact h.elim
  ·rename_i e k sz off len cx kd i hu hx hy
   exact ok (H4 ba hu hx hy h.1 h.2.1 h.2.2.1) (bK ba fun c e=>by cases e) h.2.2.2
  ·rename_i len e k sz i j kd q hu hx hy
   split at h
   ·rename_i m hs;exact ok (CV ba hu hx hy hs h.1 h.2.1) (bK ba fun c e=>by cases e) h.2.2
   ·exact h.elim
  ·rename_i len e row kd q hu hx hy
   split at h
   ·rename_i m hs;exact ok (CW ba hu hx hy hs h.1 h.2.1) (bK ba fun c e=>by cases e) h.2.2
   ·exact h.elim
  ·exact h.elim
 |index t x i =>
  rw [ba] at h
  simp only [aX,aZ] at h
  split at h
  ·rename_i s kd k hu hx hy
   split at h
   ·rename_i b hi;exact ok (Gb ba hu hx hy hi) (bK ba fun c e=>by cases e) h
   ·exact h.elim
  ·rename_i len e l kd q hu hx hy
   split at h
   ·rename_i m hs
    split at h
    ·rename_i a ha;exact ok (Gc ba hu hx hy hs ha h.1 h.2.1) (bK ba fun c e=>by cases e) h.2.2
    ·exact h.elim
   ·exact h.elim
  ·exact h.elim
 |slice t x lo hi mx =>
  rw [ba] at h
  obtain⟨r,S',hr,hK⟩:=NC (n:=n) ba h
  exact ok hr (bK ba fun c e=>by cases e) hK
 |extract x i =>
  rw [ba] at h
  simp only [aX,aZ] at h
  split at h
  ·rename_i l hx
   split at h
   ·rename_i a ha;exact ok (H0 ba hx ha) (bK ba fun c e=>by cases e) h
   ·exact h.elim
  ·exact h.elim
 |makeSlice t l c =>
  rw [ba] at h
  simp only [aX,aZ] at h
  split at h
  ·rename_i e ka a kb b he hl hc
   split at h
   ·rename_i z sz by_ hz hs jn
    split at h
    ·rename_i hb
     simp only [Bool.and_eq_true] at hb
     obtain⟨h1,rfl,h2,h3,hK⟩:=h
     have hu:P.underlying t=some (.slice e):=by
      unfold fJ at he
      split at he
      ·rename_i e' hu;rw [hu,oJ_ he]
      ·cases he
     exact ok (NF ba hu hz hs jn (Nat.eq_of_beq_eq_true hb.1) (Nat.lt_of_lt_of_le Nat.zero_lt_one (Nat.le_of_ble_eq_true hb.2)) hl hc h1 h2 h3) (bK ba fun c e=>by cases e) hK
    ·exact h.elim
   ·exact h.elim
  ·exact h.elim
 |range t x =>
  rw [ba] at h
  simp only [aX] at h
  split at h
  ·rename_i s hu hx
   exact ok (HG ba hu hx) (bK ba fun c e=>by cases e) h
  ·exact h.elim
 |next x isStr =>
  rw [ba] at h
  simp only [aX] at h
  split at h
  ·rename_i k sz hx
   obtain⟨⟨s,pos⟩,hk,d,hd,h⟩:=h.out
   have hk:=Ox hk
   cases d with
   |true=>exact ok (Ib ba hx hk (of_decide_eq_true hd)) (bK ba fun c e=>by cases e) h
   |false=>exact ok (Ic ba hx hk (of_decide_eq_false hd)) (bK ba fun c e=>by cases e) h
  ·exact h.elim
 |makeFunc f first cap=>rw [ba] at h;exact ok (F_ ba) (bK ba fun c e=>by cases e) h
 |nilCheck x =>
  rw [ba] at h
  simp only [aX,aZ] at h
  split at h
  ·rename_i c hx
   have:=D5 (P:=P) (w0:=w0) (n:=n) (S:=S) ba (.inl ⟨c,hx⟩)
   rw [hx] at this
   exact ok this (bK ba fun c e=>by cases e) h
  ·rename_i k sz i j hx
   have:=D5 (P:=P) (w0:=w0) (n:=n) (S:=S) ba (.inr ⟨k,sz,i,j,hx⟩)
   rw [hx] at this
   exact ok this (bK ba fun c e=>by cases e) h
  ·exact h.elim
 |call c =>
  rw [ba] at h
  simp only [aX,aZ] at h
  split at h
  ·rename_i f hc
   unfold yD at h
   split at h
   ·rename_i gf first cap hf
    split at h
    ·rename_i e1 e2
     obtain⟨r,S',bC,hK⟩:=h
     have e1:first=#[]:=by simpa using e1
     have e2:cap=#[]:=by simpa using e2
     subst e1 e2
     refine⟨r,S',JB ba hc (fun A g a w hS hA=>?_) bC,hK⟩
     have h1:=hA.ev f
     rw [hf] at h1
     refine⟨#[],#[],bO h1,?_⟩
     have e:(#[]:Array Value)++c.args.map a.eval++#[]=c.args.map a.eval:=by simp
     rw [e]
     exact nL hA c.args
    ·exact h.elim
   ·rename_i gf first cap hf
    obtain⟨r,S',bC,hK⟩:=h
    refine⟨r,S',JB ba hc (fun A g a w hS hA=>?_) bC,hK⟩
    have h1:=hA.ev f
    rw [hf] at h1
    obtain⟨y,hy⟩:∃ y,a.eval f=y:=⟨_,rfl⟩
    rw [hy] at h1
    cases h1 with
    |@fn _ _ _ cs ds p1 p2 p3 p4 =>
     exact⟨cs,ds,hy,gM (gM ⟨p1,p3⟩ (nL hA c.args)) ⟨p2,p4⟩⟩
   ·rename_i k hf
    obtain⟨r,S',alp,hK⟩:=h
    exact⟨r,S',Cu ba hc hf alp,hK⟩
   ·exact h.elim
  ·rename_i b hc
   unfold lZ at h
   split at h
   ·split at h
    ·rename_i t a fC aY
     obtain⟨x,hx,EJ⟩:=YP aY
     unfold aZ at h
     split at h
     ·rename_i m hlen
      unfold lenOf at hlen
      split at hlen
      ·rename_i e m' hu hs hm
       obtain rfl:=oJ_ hlen
       exact ok (I3 ba hc (toList_one fC) hx EJ hm hu (.inl ⟨e,rfl,fun s e=>by rw [e] at hs;cases hs⟩)) (bK ba fun c e=>by cases e) h
      ·rename_i m' hu hs hm
       obtain rfl:=oJ_ hlen
       refine ok (I3 ba hc (toList_one fC) hx EJ hm hu (.inr ⟨rfl,?_⟩)) (bK ba fun c e=>by cases e) h
       unfold isStr at hs
       split at hs
       ·exact⟨_,rfl⟩
       ·cases hs
      ·cases hlen
     ·exact h.elim
    ·exact h.elim
   ·split at h
    ·rename_i t t2 a b fC aY
     obtain⟨x,y,jG,EJ,PY⟩:=Dr aY
     split at h
     ·rename_i e e2 he he2
      split at h
      ·rename_i hz
       obtain⟨more,hm,h⟩:=h.out
       split at hz
       ·rename_i z sz N8 hs
        have elem:∀ {t e:TypeId},fJ P t=some e->P.underlying t=some (.slice e):=by
         intro t e he
         unfold fJ at he
         split at he
         ·rename_i e' hu;rw [hu,oJ_ he]
         ·cases he
        obtain⟨r,S',hr,hK⟩:=H6 (n:=n) (w0:=w0) ba hc (toList_two fC) jG EJ PY (elem he) (elem he2) hm h.1 N8 hs (Nat.eq_of_beq_eq_true hz) h.2
        exact ok hr (bK ba fun c e=>by cases e) hK
       ·cases hz
      ·exact h.elim
     ·exact h.elim
    ·exact h.elim
   ·split at h
    ·rename_i k a k' b aY
     obtain⟨x,y,jG,EJ,PY⟩:=Dr aY
     split at h
     ·rename_i hk
      obtain rfl:=of_decide_eq_true hk
      exact ok (Yf ba hc jG EJ PY) (bK ba fun c e=>by cases e) h
     ·exact h.elim
    ·exact h.elim
   ·split at h
    ·rename_i k a k' b aY
     obtain⟨x,y,jG,EJ,PY⟩:=Dr aY
     split at h
     ·rename_i hk
      obtain rfl:=of_decide_eq_true hk
      exact ok (Yg ba hc jG EJ PY) (bK ba fun c e=>by cases e) h
     ·exact h.elim
    ·exact h.elim
   ·exact h.elim
  ·exact h.elim
 |_=>rw [ba] at h;exact h.elim
end
section
variable {P:Program}{w0:World}{rd:Bool}{n:Nat}{o:Oper}{α:AA}{S S':ad}{r:AV}
def qd (P:Program) (w0:World) (n:Nat) (ops:Array Oper) (l:List Nat) (α:AA) (S:ad) (aw:AA) (S':ad):Prop :=
 ∀ (F:Fence) (m:Nat) (A:Nat->Prop) (g:Gh) (a:Act) (w:World) (Q:Exit->Act->World->Prop),gU F->St w0 A g S w->bN g w n α a ->
  (∀ (a':Act) (w':World) (g':Gh),St w0 A g' S' w'->bN g' w' n aw a'->Ext A g w g' w'->Q .normal a' w')->wpOpsIn F m P ops Q l a w
theorem j9 {g:Gh}{w:World}{a:Act}{x:Value}{b:AV}{d:Option Tmp}(hA:bN g w n α a) (hd:(match d with|some d=>Nat.blt d n|none=>true)=true) (hx:aH g w b x):bN g w n (α.put d b) (a.put d x):=by
 cases d with
 |none=>exact hA.QX
 |some d=>exact hA.put (Nat.lt_of_lt_of_le (Nat.lt_succ_self d) (Nat.le_of_ble_eq_true hd)) hx
theorem oe {g:Gh}{w:World}{a:Act}{ops:Array Oper}{j:Nat}{y:Option Bool}(hA:bN g w n α a) (h:nU ops α j=some y):yielded ops a.tmps j=y:=by
 unfold nU at h
 unfold yielded
 split at h
 ·rename_i t ht
  have key:∀ x,α.tm t=.v x->a.tmps[t]?=some x:=by
   intro x hc
   have aA:t < n:=by
    rcases Nat.lt_or_ge t n with h|h
    ·exact h
    ·have:=hA.out t h;rw [this] at hc;cases hc
   have h1:=hA.tm t aA
   rw [hc] at h1
   have h2:=bO h1
   have hs:t < a.tmps.size:=by rw [hA.size];exact aA
   rw [Array.getElem?_eq_getElem hs]
   rw [Array.getD_eq_getD_getElem?,Array.getElem?_eq_getElem hs] at h2
   simpa using h2
  split at h
  ·rename_i c hc
   obtain rfl:=oJ_ h
   rw [ht]
   simp [key _ hc]
  ·rename_i c hc
   obtain rfl:=oJ_ h
   rw [ht]
   simp [key _ hc]
  ·cases h
 ·cases h
theorem qd.step {ops:Array Oper}{i:Nat}{rest:List Nat}{aw:AA}{bT:ad}(hi:ops[i]?=some o) (hd:(match o.dst with|some d=>Nat.blt d n|none=>true)=true)
  (hw:∀ (g:Gh) (w:World) (a:Act),bN g w n α a->Region.wanted o (yielded ops a.tmps)=true) (h:ef P w0 n o α S r bT) (k:qd P w0 n ops rest (α.put o.dst r) bT aw S'):qd P w0 n ops (i::rest) α S aw S':=by
 intro F m A g a w Q hF hS hA hQ
 simp only [wpOpsIn,hi]
 rw [if_pos (hw g w a hA)]
 refine⟨fun f _=>hF.1 f,h F m A g a w _ Q hF hS hA fun v w' g' hr eR hE=>?_⟩
 exact k F m A g' _ w' Q hF eR (j9 (hA.later hE.toLater) hd hr) fun a' jX tO h1 h2 h3=>hQ a' jX tO h1 h2 (hE.trans h3)
theorem cu.region {id:Nat}{ops:Array Oper}{aw:AA}(h:qd P w0 n ops (List.range ops.size) α S aw S'):cu P w0 rd n (.region id ops false) α S .normal aw S' :=
 fun F m A g a w hF hR hS hA=>wpIn_region (h F m A g a w _ hF hS hA fun a' w' g' h1 h2 h3=>⟨rfl,g',h1,h2,h3⟩)
def JK (P:Program) (α:AA) (S:ad):ResultVar->Option AV
 |.tmp t=>some (α.tm t)
 |.cell a t=>sW P S t (α.tm a)
def wF (P:Program) (α:AA) (S:ad):List ResultVar->Option (List AV)
 |[]=>some []
 |r::rs=>match JK P α S r with
  |some a=>match wF P α S rs with|some l=>some (a::l)|none=>none
  |none=>none
def uW (P:Program) (rs:Array ResultVar) (α:AA) (S:ad):Option AV :=
 match wF P α S rs.toList with
 |some [a]=>some a
 |some l=>some (.aE l)
 |none=>none
def jr (S:ad):List DE->ad
 |[]=>S
 |d::ks=>jr (S.set d.k none) ks
def wE (S:ad):List DE->Bool
 |[]=>true
 |.ob k::ks=>match S.get k with|some .df=>wE (S.set k none) ks|_=>false
 |.del _ _ _::_=>false
def Fh (P:Program) (rs:Array ResultVar) (R:AV->ad->Prop) (ex:Exit) (α:AA) (S:ad):Prop :=
 match ex with
 |.normal|.ret=>match wE S α.df,uW P rs α (jr S α.df) with
  |true,some r=>R r (jr S α.df)
  |_,_=>False
 |_=>False
def NG (tmps:Array Value) (rv:ResultVar):Sem Value :=
 match rv with
 |.tmp t=>pure (tmps.getD t undef)
 |.cell c t=>do loadVar t (<-asAddr (tmps.getD c undef))
theorem Cg (fn:Func) (tmps:Array Value):results fn tmps=(do
  let vs <-fn.results.mapM (NG tmps)
  pure (if h:vs.size=1 then vs[0] else .tuple vs)):=by
 unfold results
 congr 1
theorem NH {A:Nat->Prop}{g:Gh}{w:World}{a:Act}{rv:ResultVar}{b:AV}(hS:St w0 A g S w) (hA:bN g w n α a) (h:JK P α S rv=some b) :
  ∃ x,(NG a.tmps rv).run P w=.ok x w/\aH g w b x:=by
 have ev:=fun t=>hA.ev (.tmp t)
 cases rv with
 |tmp t =>
  obtain rfl:=oJ_ h
  exact⟨_,rfl,ev t⟩
 |cell c t =>
  obtain⟨b',q,x,h1,h2,h3⟩:=zr (t:=t) hS h (ev c)
  have h1:a.tmps.getD c undef=.pointer (some ⟨b',q,none⟩):=h1
  exact⟨x,by simp [NG,h1,asAddr,h2],h3⟩
theorem vQ {A:Nat->Prop}{g:Gh}{w:World}{a:Act}(hS:St w0 A g S w) (hA:bN g w n α a):∀ {rs:List ResultVar}{l:List AV},wF P α S rs=some l ->
  ∃ xs:List Value,(rs.mapM (NG a.tmps)).run P w=.ok xs w/\xs.length=l.length/\∀ (i:Nat) (b:AV) (x:Value),l[i]?=some b->xs[i]?=some x->aH g w b x
 |[],l,h=>by
  obtain rfl:=oJ_ h
  exact⟨[],by simp,rfl,fun i b x h=>by simp at h⟩
 |rv::rs,l,h=>by
  simp only [wF] at h
  split at h
  ·rename_i b hb
   split at h
   ·rename_i l' hl
    obtain rfl:=oJ_ h
    obtain⟨x,h1,h2⟩:=NH hS hA hb
    obtain⟨xs,h3,h4,h5⟩:=vQ hS hA hl
    refine⟨x::xs,?_,by simp [h4],fun i b' y wY hy=>?_⟩
    ·rw [List.mapM_cons]
     simp only [Sem.run_bind]
     rw [h1]
     simp only [Result.andThen_ok,Sem.run_bind]
     rw [h3]
     rfl
    ·cases i with
     |zero=>simp at wY hy;subst wY hy;exact h2
     |succ i=>simp at wY hy;exact h5 i b' y wY hy
   ·cases h
  ·cases h
theorem Bz {A:Nat->Prop}{g:Gh}{w:World}{a:Act}{fn:Func}{b:AV}(hS:St w0 A g S w) (hA:bN g w n α a) (h:uW P fn.results α S=some b):∃ x,(results fn a.tmps).run P w=.ok x w/\aH g w b x:=by
 have e:∀ {l:List AV}{xs:List Value},xs.length=l.length->(∀ (i:Nat) (b:AV) (x:Value),l[i]?=some b->xs[i]?=some x->aH g w b x)->(xs.toArray.size=1->∃ a,l=[a])/\aH g w (.aE l) (.tuple xs.toArray):=by
  intro l xs h1 h2
  refine⟨fun h3=>?_,.aE (by simpa using h1) (fun i b x hb hx=>h2 i b x hb (by simpa using hx))⟩
  match l,h1 with
  |[a],_=>exact⟨a,rfl⟩
  |[],h1=>simp only [List.size_toArray,h1,List.length_nil] at h3;cases h3
  |_::_::_,h1=>simp only [List.size_toArray,h1,List.length_cons] at h3;omega
 unfold uW at h
 split at h
 ·rename_i a0 hl
  obtain rfl:=oJ_ h
  obtain⟨xs,h1,h2,h3⟩:=vQ hS hA hl
  clear e
  match xs,h2,h1,h3 with
  |[x],_,h1,h3 =>
   refine⟨x,?_,h3 0 _ x rfl rfl⟩
   simp only [Cg,Array.mapM_eq_mapM_toList,Sem.run_bind,Sem.run_map]
   rw [h1]
   rfl
 ·rename_i l a_ hl
  obtain rfl:=oJ_ h
  obtain⟨xs,h1,h2,h3⟩:=vQ hS hA hl
  obtain⟨e1,e2⟩:=e h2 h3
  refine⟨_,?_,e2⟩
  have hs:¬ xs.toArray.size=1:=fun h=>by obtain⟨a,rfl⟩:=e1 h;exact a_ a rfl
  simp only [Cg,Array.mapM_eq_mapM_toList,Sem.run_bind,Sem.run_map]
  rw [h1]
  simp only [Result.andThen_ok,dif_neg hs]
  rfl
 ·cases h
end
end Go.Proofs.YtgjfgekaclobaaaGreat
