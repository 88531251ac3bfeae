import Derived.Laws.MakeOwn
import Derived.Laws.RangeAny
import Derived.Test.YtgjfgekaclobaaaGreatCm5
namespace Go.Proofs.YtgjfgekaclobaaaGreat
set_option linter.unusedVariables false
set_option linter.unusedSimpArgs false
open Go.RowKit
section
variable {P:Program}{w0:World}{n:Nat}{o:Oper}{α:AA}{S S':aa}{r:AV}
theorem run_sliceBound {w:World}{kd:IntKind}{i:Int}{y:Nat}{code:BoundsCode}(h0:0<=i) (h:i<=y):(Instr.sliceBound (.int kd i) y code).run P w=.ok i.toNat w:=by
 simp [Instr.sliceBound,asIntOf,h0,h]
theorem w5 {g:Gh}{w:World}{a:Act}(hA:bf g w n α a) {lo:Option Operand}{d l:Int}(h:iS (lo.map α.ev) d=some l):(lo=none/\l=d)\/∃ x kd,lo=some x/\a.eval x=.int kd l:=by
 cases lo with
 |none=>simp [iS] at h;exact .inl ⟨rfl,h.symm⟩
 |some x =>
  right
  have h1:=hA.ev x
  simp only [Option.map_some,iS] at h
  split at h
  ·rename_i e
   simp at e
  ·rename_i kd i e
   simp only [Option.some.injEq] at e h
   rw [e] at h1
   exact⟨x,kd,rfl,by rw [bg h1,h]⟩
  ·cases h
theorem jo {g:Gh}{w:World}{a:Act}(hA:bf g w n α a) {isSl:Bool}{len cap:Nat}{lo hi:Option Operand}{l h:Int}(hl:iS (lo.map α.ev) 0=some l) (hh:iS (hi.map α.ev) len=some h) (h0:0<=l) (h1:l<=h) (h2:h<=cap) :
  (Instr.sliceBounds isSl len cap (lo.map a.eval) (hi.map a.eval) none).run P w=.ok (l.toNat,h.toNat,cap) w:=by
 have vP:∀ code (w:World),(match lo.map a.eval with|some v=>Instr.sliceBound v h.toNat code|none=>pure 0:Sem Nat).run P w=.ok l.toNat w:=by
  intro code w
  rcases w5 hA hl with ⟨rfl,rfl⟩|⟨x,kd,rfl,hx⟩
  ·rfl
  ·simp only [Option.map_some,hx]
   exact run_sliceBound h0 (by omega)
 rcases w5 hA hh with ⟨rfl,rfl⟩|⟨x,kd,rfl,hx⟩
 ·have:=vP .sliceB w
  simp only [Int.toNat_natCast] at this ⊢
  cases lo with
  |none=>simp only [Option.map_none] at this ⊢;simp [Instr.sliceBounds];simpa using this
  |some y=>simp only [Option.map_some,Option.map_none] at this ⊢;simp [Instr.sliceBounds,this]
 ·have:=vP .sliceB w
  have hb:=fun code=>run_sliceBound (P:=P) (w:=w) (kd:=kd) (i:=h) (y:=cap) (code:=code) (by omega) h2
  cases lo with
  |none=>simp only [Option.map_none,Option.map_some,hx] at this ⊢;simp [Instr.sliceBounds,hb];simpa using this
  |some y=>simp only [Option.map_some,hx] at this ⊢;simp [Instr.sliceBounds,hb,this]
theorem vQ {g:Gh}{w:World}{a:Act}(hA:bf g w n α a) {isSl:Bool}{len cap:Nat}{lo:Option Operand}{x y:Operand}{k1 k2:IntKind}{l h m:Int}(hl:iS (lo.map α.ev) 0=some l) (hx:a.eval x=.int k1 h) (hy:a.eval y=.int k2 m) (h0:0<=l) (h1:l<=h) (h2:h<=m) (h3:m<=cap) :
  (Instr.sliceBounds isSl len cap (lo.map a.eval) (some (a.eval x)) (some (a.eval y))).run P w=.ok (l.toNat,h.toNat,m.toNat) w:=by
 have hb:=fun code=>run_sliceBound (P:=P) (w:=w) (kd:=k2) (i:=m) (y:=cap) (code:=code) (by omega) h3
 have dF:=fun code=>run_sliceBound (P:=P) (w:=w) (kd:=k1) (i:=h) (y:=m.toNat) (code:=code) (by omega) (by omega)
 rcases w5 hA hl with ⟨rfl,rfl⟩|⟨z,kd,rfl,hz⟩
 ·simp [Instr.sliceBounds,hx,hy,hb,dF]
 ·have oQ:=fun code=>run_sliceBound (P:=P) (w:=w) (kd:=kd) (i:=l) (y:=h.toNat) (code:=code) h0 (by omega)
  simp [Instr.sliceBounds,hx,hy,hz,hb,dF,oQ]
theorem EP {g:Gh}{w:World}{ex ex':Bool}{rows:List (List AV)}{B:Option Addr}{c sz l h m:Nat}(hr:aA g w (.sl ex rows) (.slice B rows.length c)) (hl:∀ row ∈ rows,row.length=sz) (h1:l<=h) (h2:h<=rows.length) (h3:h<=m) (hex:ex'=true->m=h) :
  aA g w (.sl ex' ((rows.take h).drop l)) (.slice (if m=l then B else B.map (·.add (l*sz))) (h - l) (m - l)):=by
 have hlen:((rows.take h).drop l).length=h - l:=by simp;omega
 by_cases c0:h=l
 ·subst c0
  have e:(rows.take h).drop h=[]:=by apply List.drop_eq_nil_of_le;simp;omega
  rw [e,Nat.sub_self]
  exact .nil (fun h=>by rw [hex h,Nat.sub_self])
 ·cases hr with
  |nil hc=>simp at h2;omega
  |@sl _ _ b q sz' _ val hn hc hle jT p1 p2 =>
   have e:sz'=sz:=by
    have aB:0 < rows.length:=List.length_pos_iff.2 hn
    have a1:=jT 0 _ (List.getElem?_eq_getElem aB)
    have a2:=hl _ (List.getElem_mem aB)
    omega
   subst e
   have gA:∀ (i:Nat) (row:List AV),((rows.take h).drop l)[i]?=some row->rows[l+i]?=some row:=by
    intro i row hi
    rw [List.getElem?_drop,List.getElem?_take] at hi
    split at hi
    ·exact hi
    ·cases hi
   have:=aA.sl (g:=g) (w:=w) (ex:=ex') (rows:=(rows.take h).drop l) (b:=b) (o:=q+l*sz') (sz:=sz') (c:=m - l) (val:=fun i j=>val (l+i) j) (fun e=>by rw [e] at hlen;simp at hlen;omega) (fun h=>by rw [hlen,hex h]) (by rw [hlen];omega)
    (fun i row hi=>jT _ row (gA i row hi)) (fun i j row a hi hj=>by
     have:=p1 (l+i) j row a (gA i row hi) hj
     rwa [Nat.add_mul,show q+(l*sz'+i*sz'+j)=q+l*sz'+(i*sz'+j) by omega] at this) (fun i j row a hi hj=>p2 (l+i) j row a (gA i row hi) hj)
   rw [hlen] at this
   rw [if_neg (by omega)]
   simpa [dV] using this
theorem rZ {t:TypeId}{d:TypeDesc}{w:World}(hu:P.underlying t=some d) (hd:∀ k e,d ≠ .array k e) (x:Value) (lo hi mx:Option Value):(Instr.sliceAt t x lo hi mx).run P w=(Instr.slice t x lo hi mx).run P w:=by
 simp only [Instr.sliceAt,Sem.run_bind,run_underlying hu,Result.andThen_ok]
theorem IG {t:TypeId}{x:Operand}{lo hi mx:Option Operand}{K:AV->aa->Prop}(ho:o.op=.slice t x lo hi mx) (h:jw P t K S (α.ev x) (lo.map α.ev) (hi.map α.ev) (mx.map α.ev)):∃ r S',aI P w0 n o α S r S'/\K r S':=by
 have fin:∀ (r:AV) {d:TypeDesc},P.underlying t=some d->(∀ k e,d ≠ .array k e)->(∀ (A:Nat->Prop) (g:Gh) (a:Act) (w:World),St w0 A g S w->bf g w n α a->∃ v,(Instr.slice t (a.eval x) (lo.map a.eval) (hi.map a.eval) (mx.map a.eval)).run P w=.ok v w/\aA g w r v)->K r S->∃ r S',aI P w0 n o α S r S'/\K r S':=by
  intro r d hu hd bw hK
  refine⟨r,S,aI.quiet fun A g a w hS hA=>?_,hK⟩
  obtain⟨v,h1,h2⟩:=bw A g a w hS hA
  refine⟨v,?_,h2⟩
  simp only [execOp,ho,Sem.run_bind,rZ hu hd,h1,Result.andThen_ok]
  rfl
 unfold jw at h
 split at h
 ·rename_i s qS O_
  split at h
  ·rename_i l hh hu hl qQ
   obtain⟨h0,h1,h2,hK⟩:=h
   refine fin _ hu (fun k e h=>by cases h) (fun A g a w hS hA=>?_) hK
   have hx:=hA.ev x
   rw [qS] at hx
   have hm:mx=none:=by cases mx<;>simp_all
   subst hm
   refine⟨_,?_,.v⟩
   have:=jo (P:=P) (isSl:=false) (cap:=s.size) (w:=w) hA hl qQ h0 h1 (by omega)
   simp [Instr.slice,bg hx,run_underlying hu,this]
  ·exact h.elim
 ·rename_i ex rows qS O_
  split at h
  ·rename_i e l hh hu hl qQ
   obtain⟨py,IH,h0,h1,h2,hK⟩:=h
   obtain⟨sz,hs⟩:=Option.isSome_iff_exists.1 IH
   refine fin _ hu (fun k e h=>by cases h) (fun A g a w hS hA=>?_) hK
   have hx:=hA.ev x
   rw [qS] at hx
   have hm:mx=none:=by cases mx<;>simp_all
   subst hm
   obtain⟨B,c,e1,hle,_⟩:=mz hx
   rw [e1] at hx
   have hb:=jo (P:=P) (isSl:=true) (cap:=c) (w:=w) hA hl qQ h0 h1 (by omega)
   refine⟨_,?_,EP (ex':=false) (m:=c) hx (fun row hr=>by have:=py row hr;rw [hs] at this;exact (Option.some.inj this).symm) (show l.toNat<=hh.toNat by omega) (by omega) (by omega) (fun h=>by cases h)⟩
   simp [Instr.slice,e1,run_underlying hu,hb,bF hs]
  ·exact h.elim
 ·rename_i ex rows kd m qS O_
  split at h
  ·rename_i e l T_ hh hu hl qQ
   obtain⟨py,IH,h0,h1,rfl,h2,hK⟩:=h
   obtain⟨sz,hs⟩:=Option.isSome_iff_exists.1 IH
   refine fin _ hu (fun k e h=>by cases h) (fun A g a w hS hA=>?_) hK
   have hx:=hA.ev x
   rw [qS] at hx
   obtain⟨y,rfl,hy⟩:∃ y,mx=some y/\α.ev y=.v (.int kd hh):=by cases mx<;>simp_all
   obtain⟨z,rfl,hz⟩:∃ z,hi=some z/\α.ev z=.v (.int T_ hh):=by cases hi<;>simp_all
   have e2:=hA.ev y
   have e3:=hA.ev z
   rw [hy] at e2
   rw [hz] at e3
   obtain⟨B,c,e1,hle,_⟩:=mz hx
   rw [e1] at hx
   have hb:=vQ (P:=P) (isSl:=true) (len:=rows.length) (cap:=c) (w:=w) hA hl (bg e3) (bg e2) h0 h1 (Int.le_refl _) (by omega)
   refine⟨_,?_,EP (ex':=true) (m:=hh.toNat) hx (fun row hr=>by have:=py row hr;rw [hs] at this;exact (Option.some.inj this).symm) (show l.toNat<=hh.toNat by omega) (by omega) (Nat.le_refl _) (fun _=>rfl)⟩
   simp only [Option.map_some]
   simp [Instr.slice,e1,run_underlying hu,hb,bF hs]
  ·exact h.elim
 ·rename_i k sz off len cx qS O_
  split at h
  ·rename_i e hh hu vP qQ
   obtain⟨hs,h0,h1,hK⟩:=h
   refine fin _ hu (fun k e h=>by cases h) (fun A g a w hS hA=>?_) hK
   have hx:=hA.ev x
   rw [qS] at hx
   have hm:mx=none:=by cases mx<;>simp_all
   subst hm
   obtain⟨c,e1,aH,hc,hp,kM,hle⟩:=fj hx
   have hl:iS (lo.map α.ev) 0=some 0:=by rw [vP];rfl
   have hb:=jo (P:=P) (isSl:=true) (cap:=c) (w:=w) hA hl qQ (Int.le_refl _) h0 (by omega)
   have ga:(Instr.slice t (a.eval x) (lo.map a.eval) (hi.map a.eval) (Option.map a.eval none)).run P w=.ok (.slice (some ⟨g.ob k,off*sz,none⟩) hh.toNat c) w:=by
    simp [Instr.slice,e1,run_underlying hu,hb,bF hs,dV]
   exact⟨_,ga,.ob aH hc hp kM (by omega)⟩
  ·rename_i e kd l hh hu vP qQ
   obtain⟨hs,h0,h1,h2,hK1,zQ⟩:=h
   have hl:iS (lo.map α.ev) 0=some l:=by rw [vP];rfl
   by_cases c0:l=hh
   ·refine fin _ hu (fun k e h=>by cases h) (fun A g a w hS hA=>?_) (hK1 c0)
    have hx:=hA.ev x
    rw [qS] at hx
    have hm:mx=none:=by cases mx<;>simp_all
    subst hm
    obtain⟨c,e1,aH,hc,hp,kM,hle⟩:=fj hx
    have hb:=jo (P:=P) (isSl:=true) (cap:=c) (w:=w) hA hl qQ h0 h1 (by omega)
    have ga:(Instr.slice t (a.eval x) (lo.map a.eval) (hi.map a.eval) (Option.map a.eval none)).run P w=.ok (.slice (if c=l.toNat then some ⟨g.ob k,off*sz,none⟩ else (some ⟨g.ob k,off*sz,none⟩:Option Addr).map (·.add (l.toNat*sz))) 0 (c - l.toNat)) w:=by
     simp [Instr.slice,e1,run_underlying hu,hb,bF hs,c0]
    exact⟨_,ga,.nil (fun h=>by cases h)⟩
   ·refine fin _ hu (fun k e h=>by cases h) (fun A g a w hS hA=>?_) (zQ (by omega))
    have hx:=hA.ev x
    rw [qS] at hx
    have hm:mx=none:=by cases mx<;>simp_all
    subst hm
    obtain⟨c,e1,aH,hc,hp,kM,hle⟩:=fj hx
    have hb:=jo (P:=P) (isSl:=true) (cap:=c) (w:=w) hA hl qQ h0 h1 (by omega)
    have aP:¬ c=l.toNat:=by omega
    have ga:(Instr.slice t (a.eval x) (lo.map a.eval) (hi.map a.eval) (Option.map a.eval none)).run P w=.ok (.slice (some ⟨g.ob k,(off+l.toNat)*sz,none⟩) (hh.toNat - l.toNat) (c - l.toNat)) w:=by
     simp [Instr.slice,e1,run_underlying hu,hb,bF hs,aP,dV,Nat.add_mul]
    refine⟨_,ga,.ob aH (fun m hm=>?_) (by omega) (fun hm=>?_) (by omega)⟩
    ·cases cx with
     |none=>simp at hm
     |some c'=>simp at hm;have:=hc c' rfl;omega
    ·cases cx with
     |none=>have:=kM rfl;omega
     |some c'=>simp at hm
  ·exact h.elim
 ·rename_i k sz off len cx kd m qS O_
  split at h
  ·rename_i e l T_ hh hu hl qQ
   obtain⟨hs,rfl,rfl,h1,h0,hK⟩:=h
   refine fin _ hu (fun k e h=>by cases h) (fun A g a w hS hA=>?_) hK
   have hx:=hA.ev x
   rw [qS] at hx
   obtain⟨y,rfl,hy⟩:∃ y,mx=some y/\α.ev y=.v (.int kd hh):=by cases mx<;>simp_all
   obtain⟨z,rfl,hz⟩:∃ z,hi=some z/\α.ev z=.v (.int T_ hh):=by cases hi<;>simp_all
   have e2:=hA.ev y
   have e3:=hA.ev z
   rw [hy] at e2
   rw [hz] at e3
   obtain⟨c,e1,aH,hc,hp,kM,hle⟩:=fj hx
   have hb:=vQ (P:=P) (isSl:=true) (len:=len) (cap:=c) (w:=w) hA hl (bg e3) (bg e2) (Int.le_refl _) h0 (Int.le_refl _) (by omega)
   have ga:(Instr.slice t (a.eval x) (lo.map a.eval) (some (a.eval z)) (some (a.eval y))).run P w=.ok (.slice (some ⟨g.ob k,off*sz,none⟩) hh.toNat hh.toNat) w:=by
    simp [Instr.slice,e1,run_underlying hu,hb,bF hs,dV]
   exact⟨_,ga,.ob aH (fun m hm=>by simp at hm;exact hm) (by omega) (fun h=>by cases h) (Nat.le_refl _)⟩
  ·exact h.elim
 ·exact h.elim
end
section
variable {P:Program}{w0:World}{n:Nat}{o:Oper}{α:AA}{S S':aa}{r:AV}
theorem St.putObj {A:Nat->Prop}{g:Gh}{w:World}{k:Nat}{o ob:Ob}(hS:St w0 A g S w) (hk:S.get k=some o) (ha:g.al k) (qp:∀ J,o ≠ .fo J/\ob ≠ .fo J) {x':Obj}{w':World}(jK:w'={ w with heap:=w.heap.setIfInBounds (g.ob k) x' })
  (hc:∀ q,w'.cell? ⟨g.ob k,q,none⟩=w.cell? ⟨g.ob k,q,none⟩) (gK:Later g w g w'->w'.heap[g.ob k]?=some x'->cH g w' (g.ob k) (g.cp k) ob):Ext A g w g w'/\St w0 A g (S.set k (some ob)) w':=by
 obtain⟨k2,k3,k4⟩:=hS.bj k o hk ha
 have aZ:w'.heap.size=w.heap.size:=by rw [jK];simp
 have sf:∀ b,b ≠ g.ob k->w'.heap[b]?=w.heap[b]?:=by
  intro b hb
  rw [jK]
  simp only [Array.getElem?_setIfInBounds]
  rw [if_neg (Ne.symm hb)]
 have om:w'.heap[g.ob k]?=some x':=by
  rw [jK]
  simp [Array.getElem?_setIfInBounds,k3]
 have je:∀ b q,w'.cell? ⟨b,q,none⟩=w.cell? ⟨b,q,none⟩:=by
  intro b q
  by_cases e:b=g.ob k
  ·subst e;exact hc q
  ·exact World.cell?_of_block (sf b e)
 have hL:Later g w g w':=⟨fun _ h=>h,fun _ _=>rfl,fun _ _=>rfl,fun _ _ h=>h,fun b q _=>je b q⟩
 have hE:Ext A g w g w':={ hL with size:=by rw [aZ];exact Nat.le_refl _,cD:=fun b hb hA=>sf b (fun e=>hA (by rw [e];exact k2)),eW:=fun _ _ h=>.inl h }
 have key:∀ l r,(S.set k (some ob)).get l=some r->(l=k/\r=ob)\/(l ≠ k/\S.get l=some r):=by
  intro l r hl
  have hl:aX S.get k (some ob) l=some r:=hl
  by_cases e:l=k
  ·subst e
   rw [ah] at hl
   exact .inl ⟨rfl,(Option.some.inj hl).symm⟩
  ·rw [aq _ _ e] at hl
   exact .inr ⟨e,hl⟩
 refine⟨hE,hS.next hE (by rw [jK]) (by rw [jK]) (by rw [jK]) hS.al (fun j p hj aj=>?_) (fun i j p q hi hj ai aj e=>?_) (fun b q hf=>by rw [aZ];exact hS.bM b q hf) rfl (fun j J hj aj=>(key j _ hj).elim (fun e=>absurd e.2.symm (qp J).2) fun e=>⟨e.2,aj⟩) (fun j p hj aj=>.inr ((key j p hj).elim (fun e=>⟨j,o,aj,e.1.symm ▸ hk,rfl,.inl rfl⟩) fun e=>⟨j,p,aj,e.2,rfl,.inl rfl⟩))⟩
 ·rcases key j p hj with ⟨rfl,rfl⟩|⟨aP,hj⟩
  ·exact⟨k2,by rw [aZ];exact k3,gK hL om⟩
  ·obtain⟨h2,h3,h4⟩:=hS.bj j p hj aj
   exact⟨h2,by rw [aZ];exact h3,h4.later hL (sf _ (fun e=>aP (hS.inj j k p _ hj hk aj ha e))) (fun _ h=>h) fun J hJ=>⟨rfl,by rw [aZ];exact Nat.le_refl _,fun c hc=>sf c fun e=>hS.iF j J k o (by rw [<-hJ];exact hj) aj hk ha (fun e'=>aP e'.symm) (by rw [<-e];exact hc),fun _ _ _ h=>h⟩⟩
 ·rcases key i p hi with ⟨rfl,_⟩|⟨h1,jq⟩<;>rcases key j q hj with ⟨rfl,_⟩|⟨h2,dK⟩
  ·rfl
  ·exact hS.inj i j _ q hk dK ai aj e
  ·exact hS.inj i j p _ jq hk ai aj e
  ·exact hS.inj i j p q jq dK ai aj e
theorem II {t e:TypeId}{l c:Operand}{z:Value}{sz by_:Nat}{ka kb:IntKind}{a:Int}(ho:o.op=.makeSlice t l c) (ht:P.underlying t=some (.slice e)) (hz:b8 P e=some z) (hs:bZ P e=some sz) (ja:fe P e=some by_)
  (jN:z.cells.size=sz) (hs0:0 < sz) (hl:α.ev l=.v (.int ka a)) (hc:α.ev c=.v (.int kb a)) (h1:0<=a) (h2:a*by_<=35184372088832) (h3:a<=9223372036854775807) :
  aI P w0 n o α S (.ob S.nx sz 0 a.toNat none) (S.new (.arr sz (List.replicate a.toNat (z.cells.toList.map a8)) 0 true)):=by
 intro A g q w hS hA
 obtain⟨i,hi,aZ⟩:=gz hs
 have nV:i.zero=some z:=by unfold b8 at hz;rw [hi] at hz;simpa using hz
 have vE:i.bytes=by_:=by unfold fe at ja;rw [hi] at ja;simpa using ja
 have eX:=hA.ev l
 have xN:=hA.ev c
 rw [hl] at eX
 rw [hc] at xN
 have eX:=bg eX
 have xN:=bg xN
 have bw:=run_make (P:=P) w t e i z ht hi nV ka kb a a h1 (Int.le_refl _) (by rw [vE,Int.mul_comm];omega) h3
 have oW:∀ q,¬ g.fz w.heap.size q:=fun q hf=>absurd (hS.bM _ _ hf) (Nat.lt_irrefl _)
 obtain⟨hE,b_⟩:=hS.new (.cells (madeCells z.cells (a.toNat*i.size)) e) (.arr sz (List.replicate a.toNat (z.cells.toList.map a8)) 0 true) a.toNat (fun J=>by simp) (fun hL=>by
  refine⟨_,e,ct,?_,by simp,fun _=>by simp,fun m row hr=>?_,Nat.zero_le _,fun q=>⟨fun h=>absurd h (oW q),fun h=>by simp at h⟩⟩
  ·rw [size_madeCells,aZ]
  ·obtain⟨eL,rfl⟩:=List.getElem?_eq_some_iff.1 hr
   simp only [List.length_replicate] at eL
   simp only [List.getElem_replicate]
   refine⟨by simp [jN],fun j b hj=>?_⟩
   simp only [List.getElem?_map,Option.map_eq_some_iff] at hj
   obtain⟨y,hy,rfl⟩:=hj
   have sF:j < sz:=by
    have:=(List.getElem?_eq_some_iff.1 hy).1
    simp at this
    omega
   refine⟨y,?_,iZ y⟩
   have aB:m*sz+j < a.toNat*sz:=iT eL sF
   have dK:j < z.cells.size:=by omega
   have e1:(m*sz+j) % z.cells.size=j:=by
    rw [jN,Nat.mul_comm,Nat.mul_add_mod]
    exact Nat.mod_eq_of_lt sF
   have e2:(madeCells z.cells (a.toNat*i.size))[m*sz+j]?=some (z.cells[(m*sz+j) % z.cells.size]!):=by
    unfold madeCells
    rw [Array.getElem?_map,Array.getElem?_range,if_pos (by rw [aZ];exact aB)]
    rfl
   rw [e2,e1,getElem!_pos z.cells j dK,<-hy,Array.getElem?_toList,Array.getElem?_eq_getElem dK])
 refine⟨.slice (some ⟨w.heap.size,0,none⟩) a.toNat a.toNat,_,_,.inl ?_,?_,b_,hE⟩
 ·simp only [execOp,ho,eX,xN,Sem.run_bind,bw]
  rfl
 ·have:=aA.ob (g:=g.new S.nx w.heap.size a.toNat) (w:=w.alloc (.cells (madeCells z.cells (a.toNat*i.size)) e)) (k:=S.nx) (sz:=sz) (off:=0) (len:=a.toNat) (c:=a.toNat) (cx:=none) (.inr rfl) (fun m h=>by cases h)
   (by rw [Nat.zero_add];exact Nat.le_of_eq (ah _ _ _).symm) (fun _=>by rw [Nat.zero_add];exact (ah _ _ _).symm) (Nat.le_refl _)
  rw [show (g.new S.nx w.heap.size a.toNat).ob S.nx=w.heap.size from ah _ _ _,Nat.zero_mul] at this
  exact this
theorem De {t:TypeId}{x:Operand}{s:ByteArray}(ho:o.op=.range t x) (hu:P.underlying t=some .string) (hx:α.ev x=.v (.string s)):aI P w0 n o α S (.pt S.nx 0 0 0) (S.new (.si s 0)):=by
 intro A g a w hS hA
 have h1:=hA.ev x
 rw [hx] at h1
 have h1:=bg h1
 obtain⟨hE,b_⟩:=hS.new (.stringIter s 0) (.si s 0) 0 (fun J=>by simp) (fun hL=>ct)
 refine⟨.pointer (some ⟨w.heap.size,0,none⟩),_,_,.inl ?_,?_,b_,hE⟩
 ·simp only [execOp,ho,h1,Sem.run_bind,run_range_string w t s hu]
  rfl
 ·have:=aA.pt (g:=g.new S.nx w.heap.size 0) (w:=w.alloc (.stringIter s 0)) (k:=S.nx) (sz:=0) (i:=0) (j:=0) (.inr rfl)
  rw [show (g.new S.nx w.heap.size 0).ob S.nx=w.heap.size from ah _ _ _] at this
  simpa using this
theorem ER {g:Gh}{w:World}{k sz:Nat}{v:Value}(h:aA g w (.pt k sz 0 0) v):v=.pointer (some ⟨g.ob k,0,none⟩)/\g.al k:=by
 cases h with
 |pt hk=>exact⟨by simp,hk⟩
theorem DB {x:Operand}{k sz pos:Nat}{s:ByteArray}(ho:o.op=.next x true) (hx:α.ev x=.pt k sz 0 0) (hk:S.get k=some (.si s pos)) (h:pos < s.size) :
  aI P w0 n o α S (.aC [.v (.bool true),.v (.int .i64 pos),.v (.int .i32 (Utf8.decode s pos).1)]) (S.set k (some (.si s (pos+(Utf8.decode s pos).2)))):=by
 intro A g a w hS hA
 have h1:=hA.ev x
 rw [hx] at h1
 obtain⟨h1,ha⟩:=ER h1
 obtain⟨k2,k3,k4⟩:=hS.bj k _ hk ha
 have k4:w.heap[g.ob k]?=some (.stringIter s pos):=k4
 obtain⟨w',jK⟩:∃ w':World,w'={ w with heap:=w.heap.setIfInBounds (g.ob k) (.stringIter s (pos+(Utf8.decode s pos).2)) }:=⟨_,rfl⟩
 have om:w'.heap[g.ob k]?=some (.stringIter s (pos+(Utf8.decode s pos).2)):=by
  rw [jK]
  simp [Array.getElem?_setIfInBounds,k3]
 obtain⟨hE,b_⟩:=hS.putObj hk ha (fun J=>⟨by simp,by simp⟩) jK (fun q=>by simp [World.cell?,om,k4]) (ob:=.si s (pos+(Utf8.decode s pos).2)) (fun _ h=>h)
 refine⟨.tuple #[.bool true,.int .i64 pos,.int .i32 (Utf8.decode s pos).1],w',g,.inl ?_,?_,b_,hE⟩
 ·rw [jK]
  simp [execOp,ho,h1,Instr.next,getObj,setObj,Sem.run,k4,h,goInt]
 ·refine .aC rfl (fun i b y hb hy=>?_)
  match i with
  |0=>simp at hb hy;subst hb hy;exact .v
  |1=>simp at hb hy;subst hb hy;exact .v
  |2=>simp at hb hy;subst hb hy;exact .v
  |i+3=>simp at hb
theorem DC {x:Operand}{k sz pos:Nat}{s:ByteArray}(ho:o.op=.next x true) (hx:α.ev x=.pt k sz 0 0) (hk:S.get k=some (.si s pos)) (h:¬ pos < s.size):aI P w0 n o α S (.aC [.v (.bool false)]) S :=
 aI.quiet fun A g a w hS hA=>by
  have h1:=hA.ev x
  rw [hx] at h1
  obtain⟨h1,ha⟩:=ER h1
  obtain⟨k2,k3,k4⟩:=hS.bj k _ hk ha
  have k4:w.heap[g.ob k]?=some (.stringIter s pos):=k4
  refine⟨.tuple #[.bool false],?_,?_⟩
  ·simp [execOp,ho,h1,Instr.next,getObj,Sem.run,k4,h]
  ·refine .aC rfl (fun i b y hb hy=>?_)
   match i with
   |0=>simp at hb hy;subst hb hy;exact .v
   |i+1=>simp at hb
end
end Go.Proofs.YtgjfgekaclobaaaGreat
