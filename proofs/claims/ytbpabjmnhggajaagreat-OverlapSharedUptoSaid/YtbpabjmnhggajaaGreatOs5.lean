import Derived.Laws.MakeOwn
import Derived.Laws.RangeAny
import Derived.Test.YtbpabjmnhggajaaGreatOs4
namespace Go.Proofs.YtbpabjmnhggajaaGreat
set_option linter.unusedVariables false
set_option linter.unusedSimpArgs false
open Go.RowKit
section
variable {P:Program}{w0:World}{n:Nat}{o:Oper}{α:AA}{S S':ae}{r:AV}
theorem run_sliceBound {w:World}{kd:IntKind}{i:Int}{y:Nat}{code:BoundsCode}(h0:0<=i) (h:i<=y):(Instr.sliceBound (.int kd i) y code).run P w=.ok i.toNat w:=by
 simp[Instr.sliceBound,asIntOf,h0,h]
theorem CA {g:Gh}{w:World}{a:Act}(hA:bR g w n α a) {lo:Option Operand}{d l:Int}(h:j6 (lo.map α.ev) d=some l):(lo=none/\l=d)\/∃ x kd,lo=some x/\a.eval x=.int kd l:=by
 cases lo with
 |none=>simp[j6] at h;exact .inl ⟨rfl,h.symm⟩
 |some x =>
  right;have h1:=hA.ev x;simp only[Option.map_some,j6] at h;split at h
  ·grind
  ·grind[bI]
  ·grind
theorem kB {g:Gh}{w:World}{a:Act}(hA:bR g w n α a) {isSl:Bool}{len cap:Nat}{lo hi:Option Operand}{l h:Int}(hl:j6 (lo.map α.ev) 0=some l) (hh:j6 (hi.map α.ev) len=some h) (h0:0<=l) (h1:l<=h) (h2:h<=cap) :
  (Instr.sliceBounds isSl len cap (lo.map a.eval) (hi.map a.eval) none).run P w=.ok (l.toNat,h.toNat,cap) w:=by
 have wB:∀ code (w:World),(match lo.map a.eval with|some v=>Instr.sliceBound v h.toNat code|none=>pure 0:Sem Nat).run P w=.ok l.toNat w:=by
  intro code w;rcases CA hA hl with ⟨rfl,rfl⟩|⟨x,kd,rfl,hx⟩
  ·rfl
  ·grind[run_sliceBound]
 rcases CA hA hh with ⟨rfl,rfl⟩|⟨x,kd,rfl,hx⟩
 ·have:=wB .sliceB w;simp only[Int.toNat_natCast] at this ⊢;cases lo with
  |none=>simp only[Option.map_none] at this ⊢;simp[Instr.sliceBounds];simpa using this
  |some y=>simp only[Option.map_some,Option.map_none] at this ⊢;simp[Instr.sliceBounds,this]
 ·have:=wB .sliceB w;have hb:=fun code=>run_sliceBound (P:=P) (w:=w) (kd:=kd) (i:=h) (y:=cap) (code:=code) (by omega) h2;cases lo with
  |none=>simp only[Option.map_none,Option.map_some,hx] at this ⊢;simp[Instr.sliceBounds,hb];simpa using this
  |some y=>simp only[Option.map_some,hx] at this ⊢;simp[Instr.sliceBounds,hb,this]
theorem BR {g:Gh}{w:World}{a:Act}(hA:bR g w n α a) {isSl:Bool}{len cap:Nat}{lo:Option Operand}{x y:Operand}{k1 k2:IntKind}{l h m:Int}(hl:j6 (lo.map α.ev) 0=some l) (hx:a.eval x=.int k1 h) (hy:a.eval y=.int k2 m) (h0:0<=l) (h1:l<=h) (h2:h<=m) (h3:m<=cap) :
  (Instr.sliceBounds isSl len cap (lo.map a.eval) (some (a.eval x)) (some (a.eval y))).run P w=.ok (l.toNat,h.toNat,m.toNat) w:=by
 have hb:=fun code=>run_sliceBound (P:=P) (w:=w) (kd:=k2) (i:=m) (y:=cap) (code:=code) (by omega) h3;have cy:=fun code=>run_sliceBound (P:=P) (w:=w) (kd:=k1) (i:=h) (y:=m.toNat) (code:=code) (by omega) (by omega);rcases CA hA hl with ⟨rfl,rfl⟩|⟨z,kd,rfl,hz⟩
 ·simp[Instr.sliceBounds,hx,hy,hb,cy]
 ·have jo:=fun code=>run_sliceBound (P:=P) (w:=w) (kd:=kd) (i:=l) (y:=h.toNat) (code:=code) h0 (by omega);simp[Instr.sliceBounds,hx,hy,hz,hb,cy,jo]
theorem Md {g:Gh}{w:World}{ex ex':Bool}{rows:List (List AV)}{B:Option Addr}{c sz l h m:Nat}(hr:aF g w (.sl ex rows) (.slice B rows.length c)) (hl:∀ row ∈ rows,row.length=sz) (h1:l<=h) (h2:h<=rows.length) (h3:h<=m) (hex:ex'=true->m=h) :
  aF g w (.sl ex' ((rows.take h).drop l)) (.slice (if m=l then B else B.map (·.add (l*sz))) (h - l) (m - l)):=by
 have hlen:((rows.take h).drop l).length=h - l:=by grind
 by_cases c0:h=l
 ·subst c0;have e:(rows.take h).drop h=[]:=by grind
  rw[e,Nat.sub_self];exact .nil (fun h=>by grind)
 ·cases hr with
  |nil hc=>simp at h2;omega
  |@sl _ _ b q sz' _ val hn hc hle nI p1 p2 =>
   have e:sz'=sz:=by
    have aA:0 < rows.length:=List.length_pos_iff.2 hn;have a1:=nI 0 _ (List.getElem?_eq_getElem aA);have a2:=hl _ (List.getElem_mem aA);omega
   subst e;have m7:∀ (i:Nat) (row:List AV),((rows.take h).drop l)[i]?=some row->rows[l+i]?=some row:=by grind
   have:=aF.sl (g:=g) (w:=w) (ex:=ex') (rows:=(rows.take h).drop l) (b:=b) (o:=q+l*sz') (sz:=sz') (c:=m - l) (val:=fun i j=>val (l+i) j) (fun e=>by grind) (fun h=>by grind) (by grind)
    (fun i row hi=>nI _ row (m7 i row hi)) (fun i j row a hi hj=>by grind) (fun i j row a hi hj=>p2 (l+i) j row a (m7 i row hi) hj)
   rw[hlen] at this;rw[if_neg (by omega)];simpa[fF] using this
theorem sP {t:TypeId}{d:TypeDesc}{w:World}(hu:P.underlying t=some d) (hd:∀ k e,d ≠ .array k e) (x:Value) (lo hi mx:Option Value):(Instr.sliceAt t x lo hi mx).run P w=(Instr.slice t x lo hi mx).run P w:=by
 simp only[Instr.sliceAt,Sem.run_bind,run_underlying hu,Result.andThen_ok]
theorem Ou {t:TypeId}{x:Operand}{lo hi mx:Option Operand}{K:AV->ae->Prop}(ho:o.op=.slice t x lo hi mx) (h:ln P t K S (α.ev x) (lo.map α.ev) (hi.map α.ev) (mx.map α.ev)):∃ r S',aQ P w0 n o α S r S'/\K r S':=by
 have fin:∀ (r:AV) {d:TypeDesc},P.underlying t=some d->(∀ k e,d ≠ .array k e)->(∀ (A:Nat->Prop) (g:Gh) (a:Act) (w:World),St w0 A g S w->bR g w n α a->∃ v,(Instr.slice t (a.eval x) (lo.map a.eval) (hi.map a.eval) (mx.map a.eval)).run P w=.ok v w/\aF g w r v)->K r S->∃ r S',aQ P w0 n o α S r S'/\K r S':=by
  intro r d hu hd bZ hK;refine⟨r,S,aQ.quiet fun A g a w hS hA=>?_,hK⟩;obtain⟨v,h1,h2⟩:=bZ A g a w hS hA;refine⟨v,?_,h2⟩;simp only[execOp,ho,Sem.run_bind,sP hu hd,h1,Result.andThen_ok]
  rfl
 unfold ln at h;split at h
 ·rename_i s yj V9;split at h
  ·rename_i l hh hu hl wo;obtain⟨h0,h1,h2,hK⟩:=h;refine fin _ hu (fun k e h=>by grind) (fun A g a w hS hA=>?_) hK;have hx:=hA.ev x;rw[yj] at hx;have hm:mx=none:=by cases mx<;>simp_all
   subst hm;refine⟨_,?_,.v⟩;have:=kB (P:=P) (isSl:=false) (cap:=s.size) (w:=w) hA hl wo h0 h1 (by omega);simp[Instr.slice,bI hx,run_underlying hu,this]
  ·grind
 ·rename_i ex rows yj V9;split at h
  ·rename_i e l hh hu hl wo;obtain⟨uy,Ov,h0,h1,h2,hK⟩:=h;obtain⟨sz,hs⟩:=Option.isSome_iff_exists.1 Ov;refine fin _ hu (fun k e h=>by grind) (fun A g a w hS hA=>?_) hK;have hx:=hA.ev x;rw[yj] at hx;have hm:mx=none:=by cases mx<;>simp_all
   subst hm;obtain⟨B,c,e1,hle,_⟩:=om hx;rw[e1] at hx;have hb:=kB (P:=P) (isSl:=true) (cap:=c) (w:=w) hA hl wo h0 h1 (by omega);refine⟨_,?_,Md (ex':=false) (m:=c) hx (fun row hr=>by have:=uy row hr;rw[hs] at this;exact (oJ_ this).symm) (show l.toNat<=hh.toNat by omega) (by omega) (by omega) (fun h=>by grind)⟩;simp[Instr.slice,e1,run_underlying hu,hb,ct hs]
  ·grind
 ·rename_i ex rows kd m yj V9;split at h
  ·rename_i e l kd2 hh hu hl wo;obtain⟨uy,Ov,h0,h1,rfl,h2,hK⟩:=h;obtain⟨sz,hs⟩:=Option.isSome_iff_exists.1 Ov;refine fin _ hu (fun k e h=>by grind) (fun A g a w hS hA=>?_) hK;have hx:=hA.ev x;rw[yj] at hx;obtain⟨y,rfl,hy⟩:∃ y,mx=some y/\α.ev y=.v (.int kd hh):=by cases mx<;>simp_all
   obtain⟨z,rfl,hz⟩:∃ z,hi=some z/\α.ev z=.v (.int kd2 hh):=by cases hi<;>simp_all
   have e2:=hA.ev y;have e3:=hA.ev z;rw[hy] at e2;rw[hz] at e3;obtain⟨B,c,e1,hle,_⟩:=om hx;rw[e1] at hx;have hb:=BR (P:=P) (isSl:=true) (len:=rows.length) (cap:=c) (w:=w) hA hl (bI e3) (bI e2) h0 h1 (Int.le_refl _) (by omega);refine⟨_,?_,Md (ex':=true) (m:=hh.toNat) hx (fun row hr=>by have:=uy row hr;rw[hs] at this;exact (oJ_ this).symm) (show l.toNat<=hh.toNat by omega) (by omega) (Nat.le_refl _) (fun _=>rfl)⟩;simp only[Option.map_some];simp[Instr.slice,e1,run_underlying hu,hb,ct hs]
  ·grind
 ·rename_i k sz off len cx yj V9;split at h
  ·rename_i e hh hu wB wo;obtain⟨hs,h0,h1,hK⟩:=h;refine fin _ hu (fun k e h=>by grind) (fun A g a w hS hA=>?_) hK;have hx:=hA.ev x;rw[yj] at hx;have hm:mx=none:=by cases mx<;>simp_all
   subst hm;obtain⟨c,e1,aK,hc,hp,i_,hle⟩:=iy hx;have hl:j6 (lo.map α.ev) 0=some 0:=by rw[wB];rfl
   have hb:=kB (P:=P) (isSl:=true) (cap:=c) (w:=w) hA hl wo (Int.le_refl _) h0 (by omega);have jd:(Instr.slice t (a.eval x) (lo.map a.eval) (hi.map a.eval) (Option.map a.eval none)).run P w=.ok (.slice (some ⟨g.ob k,off*sz,none⟩) hh.toNat c) w:=by
    simp[Instr.slice,e1,run_underlying hu,hb,ct hs,fF]
   exact⟨_,jd,.ob aK hc hp i_ (by omega)⟩
  ·rename_i e kd l hh hu wB wo;obtain⟨hs,h0,h1,h2,hK1,F8⟩:=h;have hl:j6 (lo.map α.ev) 0=some l:=by rw[wB];rfl
   by_cases c0:l=hh
   ·refine fin _ hu (fun k e h=>by grind) (fun A g a w hS hA=>?_) (hK1 c0);have hx:=hA.ev x;rw[yj] at hx;have hm:mx=none:=by cases mx<;>simp_all
    subst hm;obtain⟨c,e1,aK,hc,hp,i_,hle⟩:=iy hx;have hb:=kB (P:=P) (isSl:=true) (cap:=c) (w:=w) hA hl wo h0 h1 (by omega);have jd:(Instr.slice t (a.eval x) (lo.map a.eval) (hi.map a.eval) (Option.map a.eval none)).run P w=.ok (.slice (if c=l.toNat then some ⟨g.ob k,off*sz,none⟩ else (some ⟨g.ob k,off*sz,none⟩:Option Addr).map (·.add (l.toNat*sz))) 0 (c - l.toNat)) w:=by
     simp[Instr.slice,e1,run_underlying hu,hb,ct hs,c0]
    exact⟨_,jd,.nil (fun h=>by grind)⟩
   ·refine fin _ hu (fun k e h=>by grind) (fun A g a w hS hA=>?_) (F8 (by omega));have hx:=hA.ev x;rw[yj] at hx;have hm:mx=none:=by cases mx<;>simp_all
    subst hm;obtain⟨c,e1,aK,hc,hp,i_,hle⟩:=iy hx;have hb:=kB (P:=P) (isSl:=true) (cap:=c) (w:=w) hA hl wo h0 h1 (by omega);have bU:¬ c=l.toNat:=by omega
    have jd:(Instr.slice t (a.eval x) (lo.map a.eval) (hi.map a.eval) (Option.map a.eval none)).run P w=.ok (.slice (some ⟨g.ob k,(off+l.toNat)*sz,none⟩) (hh.toNat - l.toNat) (c - l.toNat)) w:=by
     simp[Instr.slice,e1,run_underlying hu,hb,ct hs,bU,fF,Nat.add_mul]
    refine⟨_,jd,.ob aK (fun m hm=>?_) (by omega) (fun hm=>?_) (by omega)⟩
    ·cases cx with
     |none=>simp at hm
     |some c'=>simp at hm;have:=hc c' rfl;omega
    ·cases cx with
     |none=>have:=i_ rfl;omega
     |some c'=>simp at hm
  ·grind
 ·rename_i k sz off len cx kd m yj V9;split at h
  ·rename_i e l kd2 hh hu hl wo;obtain⟨hs,rfl,rfl,h1,h0,hK⟩:=h;refine fin _ hu (fun k e h=>by grind) (fun A g a w hS hA=>?_) hK;have hx:=hA.ev x;rw[yj] at hx;obtain⟨y,rfl,hy⟩:∃ y,mx=some y/\α.ev y=.v (.int kd hh):=by cases mx<;>simp_all
   obtain⟨z,rfl,hz⟩:∃ z,hi=some z/\α.ev z=.v (.int kd2 hh):=by cases hi<;>simp_all
   have e2:=hA.ev y;have e3:=hA.ev z;rw[hy] at e2;rw[hz] at e3;obtain⟨c,e1,aK,hc,hp,i_,hle⟩:=iy hx;have hb:=BR (P:=P) (isSl:=true) (len:=len) (cap:=c) (w:=w) hA hl (bI e3) (bI e2) (Int.le_refl _) h0 (Int.le_refl _) (by omega);have jd:(Instr.slice t (a.eval x) (lo.map a.eval) (some (a.eval z)) (some (a.eval y))).run P w=.ok (.slice (some ⟨g.ob k,off*sz,none⟩) hh.toNat hh.toNat) w:=by
    simp[Instr.slice,e1,run_underlying hu,hb,ct hs,fF]
   exact⟨_,jd,.ob aK (fun m hm=>by grind) (by omega) (fun h=>by grind) (Nat.le_refl _)⟩
  ·grind
 ·grind
end
section
variable {P:Program}{w0:World}{n:Nat}{o:Oper}{α:AA}{S S':ae}{r:AV}
theorem St.putObj {A:Nat->Prop}{g:Gh}{w:World}{k:Nat}{o ob:Ob}(hS:St w0 A g S w) (hk:S.get k=some o) (ha:g.al k) (yu:∀ J,o ≠ .fo J/\ob ≠ .fo J) {x':Obj}{w':World}(yW:w'={ w with heap:=w.heap.setIfInBounds (g.ob k) x' })
  (hc:∀ q,w'.cell? ⟨g.ob k,q,none⟩=w.cell? ⟨g.ob k,q,none⟩) (jm:Later g w g w'->w'.heap[g.ob k]?=some x'->dJ g w' (g.ob k) (g.cp k) ob):Ext A g w g w'/\St w0 A g (S.set k (some ob)) w':=by
 obtain⟨k2,k3,k4⟩:=hS.bT k o hk ha;have bS:w'.heap.size=w.heap.size:=by grind
 have xI:∀ b,b ≠ g.ob k->w'.heap[b]?=w.heap[b]?:=by grind
 have uw:w'.heap[g.ob k]?=some x':=by grind
 have lS:∀ b q,w'.cell? ⟨b,q,none⟩=w.cell? ⟨b,q,none⟩:=by
  intro b q;by_cases e:b=g.ob k
  ·grind
  ·exact World.cell?_of_block (xI b e)
 have hL:Later g w g w':=⟨fun _ h=>h,fun _ _=>rfl,fun _ _=>rfl,fun _ _ h=>h,fun b q _=>lS b q⟩;have hE:Ext A g w g w':={ hL with size:=by grind,aU:=fun b hb hA=>xI b (fun e=>hA (by grind)),h_:=fun _ _ h=>.inl h };have key:∀ l r,(S.set k (some ob)).get l=some r->(l=k/\r=ob)\/(l ≠ k/\S.get l=some r):=by
  intro l r hl;have hl:a7 S.get k (some ob) l=some r:=hl;by_cases e:l=k
  ·grind[az]
  ·grind[aD]
 refine⟨hE,hS.next hE (by grind) (by grind) (by grind) hS.al (fun j p hj aj=>?_) (fun i j p q hi hj ai aj e=>?_) (fun b q hf=>by rw[bS];exact hS.cK b q hf) rfl (fun j J hj aj=>(key j _ hj).elim (fun e=>absurd e.2.symm (yu J).2) fun e=>⟨e.2,aj⟩) (fun j p hj aj=>.inr ((key j p hj).elim (fun e=>⟨j,o,aj,e.1.symm ▸ hk,rfl,.inl rfl⟩) fun e=>⟨j,p,aj,e.2,rfl,.inl rfl⟩))⟩
 ·rcases key j p hj with ⟨rfl,rfl⟩|⟨bU,hj⟩
  ·grind
  ·obtain⟨h2,h3,h4⟩:=hS.bT j p hj aj;exact⟨h2,by grind,h4.later hL (xI _ (fun e=>bU (hS.inj j k p _ hj hk aj ha e))) (fun _ h=>h) fun J hJ=>⟨rfl,by grind,fun c hc=>xI c fun e=>hS.kL j J k o (by grind) aj hk ha (fun e'=>bU e'.symm) (by grind),fun _ _ _ h=>h⟩⟩
 ·rcases key i p hi with ⟨rfl,_⟩|⟨h1,kM⟩<;>rcases key j q hj with ⟨rfl,_⟩|⟨h2,fc⟩
  ·rfl
  ·exact hS.inj i j _ q hk fc ai aj e
  ·exact hS.inj i j p _ kM hk ai aj e
  ·exact hS.inj i j p q kM fc ai aj e
theorem Ow {t e:TypeId}{l c:Operand}{z:Value}{sz by_:Nat}{ka kb:IntKind}{a:Int}(ho:o.op=.makeSlice t l c) (ht:P.underlying t=some (.slice e)) (hz:de P e=some z) (hs:cY P e=some sz) (pG:iu P e=some by_)
  (pH:z.cells.size=sz) (Zt:0 < sz) (hl:α.ev l=.v (.int ka a)) (hc:α.ev c=.v (.int kb a)) (h1:0<=a) (h2:a*by_<=35184372088832) (h3:a<=9223372036854775807) :
  aQ P w0 n o α S (.ob S.nx sz 0 a.toNat none) (S.new (.arr sz (List.replicate a.toNat (z.cells.toList.map bJ)) 0 true)):=by
 intro A g q w hS hA;obtain⟨i,hi,bS⟩:=jG hs;have nZ:i.zero=some z:=by grind[de]
 have PF:i.bytes=by_:=by grind[iu]
 have jH:=hA.ev l;have Di:=hA.ev c;rw[hl] at jH;rw[hc] at Di;have jH:=bI jH;have Di:=bI Di;have bZ:=run_make (P:=P) w t e i z ht hi nZ ka kb a a h1 (Int.le_refl _) (by grind) h3;have tF:∀ q,¬ g.fz w.heap.size q:=fun q hf=>absurd (hS.cK _ _ hf) (Nat.lt_irrefl _);obtain⟨hE,cZ⟩:=hS.new (.cells (madeCells z.cells (a.toNat*i.size)) e) (.arr sz (List.replicate a.toNat (z.cells.toList.map bJ)) 0 true) a.toNat (fun J=>by simp) (fun hL=>by
  refine⟨_,e,dw,?_,by simp,fun _=>by simp,fun m row hr=>?_,Nat.zero_le _,fun q=>⟨fun h=>absurd h (tF q),fun h=>by grind⟩⟩
  ·rw[size_madeCells,bS]
  ·obtain⟨jV,rfl⟩:=List.getElem?_eq_some_iff.1 hr;simp only[List.length_replicate] at jV;simp only[List.getElem_replicate];refine⟨by grind,fun j b hj=>?_⟩;simp only[List.getElem?_map,Option.map_eq_some_iff] at hj;obtain⟨y,hy,rfl⟩:=hj;have Dj:j < sz:=by grind
   refine⟨y,?_,lM y⟩;have aA:m*sz+j < a.toNat*sz:=mf jV Dj;have fc:j < z.cells.size:=by omega
   have e1:(m*sz+j) % z.cells.size=j:=by
    rw[pH,Nat.mul_comm,Nat.mul_add_mod];exact Nat.mod_eq_of_lt Dj
   have e2:(madeCells z.cells (a.toNat*i.size))[m*sz+j]?=some (z.cells[(m*sz+j) % z.cells.size]!):=by
    unfold madeCells;rw[Array.getElem?_map,Array.getElem?_range,if_pos (by grind)]
    rfl
   rw[e2,e1,getElem!_pos z.cells j fc,<-hy,Array.getElem?_toList,Array.getElem?_eq_getElem fc])
 refine⟨.slice (some ⟨w.heap.size,0,none⟩) a.toNat a.toNat,_,_,.inl ?_,?_,cZ,hE⟩
 ·simp only[execOp,ho,jH,Di,Sem.run_bind,bZ]
  rfl
 ·have:=aF.ob (g:=g.new S.nx w.heap.size a.toNat) (w:=w.alloc (.cells (madeCells z.cells (a.toNat*i.size)) e)) (k:=S.nx) (sz:=sz) (off:=0) (len:=a.toNat) (c:=a.toNat) (cx:=none) (.inr rfl) (fun m h=>by grind)
   (by rw[Nat.zero_add];exact Nat.le_of_eq (az _ _ _).symm) (fun _=>by rw[Nat.zero_add];exact (az _ _ _).symm) (Nat.le_refl _)
  rw[show (g.new S.nx w.heap.size a.toNat).ob S.nx=w.heap.size from az _ _ _,Nat.zero_mul] at this;exact this
theorem Kf {t:TypeId}{x:Operand}{s:ByteArray}(ho:o.op=.range t x) (hu:P.underlying t=some .string) (hx:α.ev x=.v (.string s)):aQ P w0 n o α S (.pt S.nx 0 0 0) (S.new (.si s 0)):=by
 intro A g a w hS hA;have h1:=hA.ev x;rw[hx] at h1;have h1:=bI h1;obtain⟨hE,cZ⟩:=hS.new (.stringIter s 0) (.si s 0) 0 (fun J=>by simp) (fun hL=>dw);refine⟨.pointer (some ⟨w.heap.size,0,none⟩),_,_,.inl ?_,?_,cZ,hE⟩
 ·simp only[execOp,ho,h1,Sem.run_bind,run_range_string w t s hu]
  rfl
 ·have:=aF.pt (g:=g.new S.nx w.heap.size 0) (w:=w.alloc (.stringIter s 0)) (k:=S.nx) (sz:=0) (i:=0) (j:=0) (.inr rfl);rw[show (g.new S.nx w.heap.size 0).ob S.nx=w.heap.size from az _ _ _] at this;simpa using this
theorem Me {g:Gh}{w:World}{k sz:Nat}{v:Value}(h:aF g w (.pt k sz 0 0) v):v=.pointer (some ⟨g.ob k,0,none⟩)/\g.al k:=by
 cases h with
 |pt hk=>exact⟨by simp,hk⟩
theorem KW {x:Operand}{k sz pos:Nat}{s:ByteArray}(ho:o.op=.next x true) (hx:α.ev x=.pt k sz 0 0) (hk:S.get k=some (.si s pos)) (h:pos < s.size) :
  aQ P w0 n o α S (.aG [.v (.bool true),.v (.int .i64 pos),.v (.int .i32 (Utf8.decode s pos).1)]) (S.set k (some (.si s (pos+(Utf8.decode s pos).2)))):=by
 intro A g a w hS hA;have h1:=hA.ev x;rw[hx] at h1;obtain⟨h1,ha⟩:=Me h1;obtain⟨k2,k3,k4⟩:=hS.bT k _ hk ha;have k4:w.heap[g.ob k]?=some (.stringIter s pos):=k4;obtain⟨w',yW⟩:∃ w':World,w'={ w with heap:=w.heap.setIfInBounds (g.ob k) (.stringIter s (pos+(Utf8.decode s pos).2)) }:=⟨_,rfl⟩;have uw:w'.heap[g.ob k]?=some (.stringIter s (pos+(Utf8.decode s pos).2)):=by grind
 obtain⟨hE,cZ⟩:=hS.putObj hk ha (fun J=>⟨by simp,by simp⟩) yW (fun q=>by simp[World.cell?,uw,k4]) (ob:=.si s (pos+(Utf8.decode s pos).2)) (fun _ h=>h);refine⟨.tuple #[.bool true,.int .i64 pos,.int .i32 (Utf8.decode s pos).1],w',g,.inl ?_,?_,cZ,hE⟩
 ·rw[yW];simp[execOp,ho,h1,Instr.next,getObj,setObj,Sem.run,k4,h,goInt]
 ·refine .aG rfl (fun i b y hb hy=>?_)
  match i with
  |0=>simp at hb hy;subst hb hy;exact .v
  |1=>simp at hb hy;subst hb hy;exact .v
  |2=>simp at hb hy;subst hb hy;exact .v
  |i+3=>simp at hb
theorem KX {x:Operand}{k sz pos:Nat}{s:ByteArray}(ho:o.op=.next x true) (hx:α.ev x=.pt k sz 0 0) (hk:S.get k=some (.si s pos)) (h:¬ pos < s.size):aQ P w0 n o α S (.aG [.v (.bool false)]) S :=
 aQ.quiet fun A g a w hS hA=>by
  have h1:=hA.ev x;rw[hx] at h1;obtain⟨h1,ha⟩:=Me h1;obtain⟨k2,k3,k4⟩:=hS.bT k _ hk ha;have k4:w.heap[g.ob k]?=some (.stringIter s pos):=k4;refine⟨.tuple #[.bool false],?_,?_⟩
  ·simp[execOp,ho,h1,Instr.next,getObj,Sem.run,k4,h]
  ·refine .aG rfl (fun i b y hb hy=>?_)
   match i with
   |0=>simp at hb hy;subst hb hy;exact .v
   |i+1=>simp at hb
end
section
variable {P:Program}{w0:World}{n:Nat}{o:Oper}{α:AA}{S S':ae}{r:AV}
theorem il {g:Gh}{w:World}{l m:List AV}{xs ys:Array Value}(h:jc g w l xs) (k:jc g w m ys):jc g w (l++m) (xs++ys):=by
 refine⟨by simp[h.1,k.1],fun i a x h1 h2=>?_⟩;by_cases c:i < l.length
 ·rw[List.getElem?_append_left c] at h1;rw[Array.getElem?_append_left (by rw[h.1];exact c)] at h2;exact h.2 i a x h1 h2
 ·rw[List.getElem?_append_right (by omega)] at h1;rw[Array.getElem?_append_right (by rw[h.1];omega),h.1] at h2;exact k.2 _ a x h1 h2
theorem Mf {c:Call}{f:Operand}{gf:FuncId}{args:List AV}{r:AV}(ho:o.op=.call c) (hc:c.callee=.value f)
  (hf:∀ (A:Nat->Prop) (g:Gh) (a:Act) (w:World),St w0 A g S w->bR g w n α a->∃ first cap,a.eval f=.func (.func gf) first cap/\jc g w args (first++c.args.map a.eval++cap)) (h:aC P w0 gf args S r S'):ez P w0 n o α S r S':=by
 intro F m A g a w next Q hF hS hA oC
 rw[Oper.semAt_eq _ _ _ (fun c' e=>by grind)];obtain⟨first,cap,he,hr⟩:=hf A g a w hS hA;have bZ:(execOp a.eval o).run P w=.ok (.enter gf (first++c.args.map a.eval++cap)) w:=by
  simp only[execOp,ho,resolve,hc,he,Deferred.ofValue,Sem.run_bind,Sem.run_pure,Result.andThen_ok,invoke];exact h.1 _ w
 rw[bZ,Oper.uponIn_enter];refine⟨fun hd=>(by rw[hF.2.1] at hd;cases hd),(h.2 F (m - 1) A g _ w hF hS hr).mono ?_⟩;rintro e w' ⟨v,g',rfl,h1,h2,h3⟩;exact oC v w' g' h1 h2 h3
theorem Ey {c:Call}{f:Operand}{k:Nat}{r:AV}(ho:o.op=.call c) (hc:c.callee=.value f) (hf:α.ev f=.yl k) (h:qU P w0 k (c.args.toList.map α.ev) S r S'):ez P w0 n o α S r S':=by
 intro F m A g a w next Q hF hS hA oC
 rw[Oper.semAt_eq _ _ _ (fun c' e=>by grind)];have h1:=hA.ev f;rw[hf] at h1;obtain⟨y,hy⟩:∃ y,a.eval f=y:=⟨_,rfl⟩;rw[hy] at h1;cases h1 with
 |yl hk =>
  obtain⟨l,fn,tmps,assign,body,abu,abv⟩:=h F (m - 1) A g (c.args.map a.eval) w hF hS hk (oN hA c.args);have bZ:(execOp a.eval o).run P w=.ok (.round l fn tmps assign body) w:=by
   simp only[execOp,ho,resolve,hc,hy,Deferred.ofValue,Sem.run_bind,Sem.run_pure,Result.andThen_ok,invoke];simpa using abu
  rw[bZ,Oper.uponIn_round];refine⟨fun hd=>(by rw[hF.2.1] at hd;cases hd),abv.mono ?_⟩;rintro e w' ⟨v,g',rfl,h1,h2,h3⟩;exact oC v w' g' h1 h2 h3
theorem XK {β γ:Type}{f:β->γ}{l:Array β}{a:γ}(h:l.toList.map f=[a]):∃ x,l=#[x]/\f x=a:=by
 obtain⟨l⟩:=l
 match l,h with
 |[x],h=>exact⟨x,rfl,by grind⟩
theorem Fj {β γ:Type}{f:β->γ}{l:Array β}{a b:γ}(h:l.toList.map f=[a,b]):∃ x y,l=#[x,y]/\f x=a/\f y=b:=by
 obtain⟨l⟩:=l
 match l,h with
 |[x,y],h=>exact⟨x,y,rfl,by grind,by grind⟩
theorem bN {op:Op}(ho:o.op=op) (h:∀ c,op ≠ .defer c):∀ c,o.op ≠ .defer c:=fun c e=>h c (ho.symm.trans e)
theorem Al {K:AV->ae->Prop}(h:a8 P w0 o.op α S K):∃ r S',ez P w0 n o α S r S'/\K r S':=by
 have ok:∀ {r:AV}{S':ae},aQ P w0 n o α S r S'->(∀ c,o.op ≠ .defer c)->K r S'->∃ r S',ez P w0 n o α S r S'/\K r S':=fun hr hd hK=>⟨_,_,hr.ops hd,hK⟩;cases bl:o.op with
 |move x=>rw[bl] at h;exact ok (run_move (.inl bl)) (bN bl fun c e=>by grind) h
 |assign x=>rw[bl] at h;exact ok (run_move (.inr bl)) (bN bl fun c e=>by grind) h
 |pick c a b =>
  rw[bl] at h;simp only[a8,bc] at h;split at h
  ·rename_i t hc;have hr:=SW (n:=n) (P:=P) (w0:=w0) (S:=S) bl hc;cases t with
   |true=>exact ok hr (bN bl fun c e=>by grind) h
   |false=>exact ok hr (bN bl fun c e=>by grind) h
  ·grind
 |alloc e =>
  rw[bl] at h;simp only[a8,bc] at h;split at h
  ·rename_i z hz;exact ok (PN bl hz) (bN bl fun c e=>by grind) h
  ·grind
 |box e x =>
  rw[bl] at h;simp only[a8,bc] at h;split at h
  ·rename_i hx;exact ok (W0 bl hx) (bN bl fun c e=>by grind) h
  ·grind
 |build t parts =>
  rw[bl] at h;simp only[a8,bc] at h;split at h
  ·rename_i a ha;exact ok (M8 bl ha) (bN bl fun c e=>by grind) h
  ·grind
 |buildSlice t len parts =>
  rw[bl] at h;simp only[a8,bc] at h;split at h
  ·rename_i e he;split at h
   ·rename_i z sz hz hs;split at h
    ·rename_i hb;simp only[Bool.and_eq_true] at hb;obtain⟨⟨b1,b2⟩,b3⟩:=hb;split at h
     ·rename_i rows hr;have hu:P.underlying t=some (.slice e):=by grind[fZ]
      exact ok (EV bl hu hz hs (Nat.le_of_ble_eq_true b1) (Nat.eq_of_beq_eq_true b2) (Nat.lt_of_lt_of_le Nat.zero_lt_one (Nat.le_of_ble_eq_true b3)) hr) (bN bl fun c e=>by grind) h
     ·grind
    ·grind
   ·grind
  ·grind
 |load t x =>
  rw[bl] at h;simp only[a8,bc] at h;split at h
  ·rename_i a ha;exact ok (PO bl ha) (bN bl fun c e=>by grind) h
  ·grind
 |store t x b =>
  rw[bl] at h;simp only[a8,bc] at h;split at h
  ·rename_i a ha;exact ok (M9 bl ha) (bN bl fun c e=>by grind) h
  ·grind
 |binOp op t x y ty =>
  rw[bl] at h;simp only[a8,bc] at h;split at h
  ·rename_i k a k' b hx hy;split at h
   ·rename_i c hc;split at h
    ·rename_i hk;obtain rfl:=of_decide_eq_true hk;obtain⟨d,rfl,hK⟩:=h;exact ok (PQ bl hx hy hc) (bN bl fun c e=>by grind) hK
    ·grind
   ·split at h
    ·rename_i v hv;exact ok (Ck bl hx hy hv) (bN bl fun c e=>by grind) h.out
    ·grind
  ·rename_i a b hx hy;split at h
   ·exact ok (M_ bl hx hy h.1) (bN bl fun c e=>by grind) h.2
   ·split at h
    ·rename_i v hv;exact ok (Ck bl hx hy hv) (bN bl fun c e=>by grind) h.out
    ·grind
  ·rename_i a b n1 n2 hx hy;split at h
   ·rename_i v hv;exact ok (Ck bl hx hy hv) (bN bl fun c e=>by grind) h.out
   ·grind
  ·grind
 |unOp op t x =>
  rw[bl] at h;simp only[a8,bc] at h;split at h
  ·rename_i b hx;exact ok (W1 bl hx) (bN bl fun c e=>by grind) h
  ·rename_i k a hx;obtain⟨d,rfl,hK⟩:=h;exact ok (W2 bl hx) (bN bl fun c e=>by grind) hK
  ·grind
 |convert src dst x =>
  rw[bl] at h;simp only[a8,bc] at h;split at h
  ·rename_i k0 k k' a hs hd hx;obtain⟨d,rfl,hK⟩:=h;exact ok (KG bl hs hd hx) (bN bl fun c e=>by grind) hK
  ·rename_i s hs hd hx;exact ok (KH bl hs hd hx) (bN bl fun c e=>by grind) h
  ·grind
 |fieldAddr s x f =>
  rw[bl] at h;simp only[a8,bc] at h;split at h
  ·rename_i fs hu;split at h
   ·rename_i fd hf;split at h
    ·rename_i m hs;split at h
     ·rename_i row hx;exact ok (KI bl hu hf hs hx) (bN bl fun c e=>by grind) h
     ·rename_i k sz i j hx;exact ok (KJ bl hu hf hs hx) (bN bl fun c e=>by grind) h
     ·grind
    ·grind
   ·grind
  ·grind
 |field t x f =>
  rw[bl] at h;simp only[a8,bc] at h;split at h
  ·rename_i fs hu;split at h
   ·rename_i fd hf;split at h
    ·rename_i l hx;split at h
     ·rename_i a ha;exact ok (Na bl hu hf hx ha) (bN bl fun c e=>by grind) h
     ·grind
    ·grind
   ·grind
  ·grind
 |indexAddr t x i =>
  rw[bl] at h;simp only[a8,bc] at h;split at h
  ·rename_i e ex rows kd k hu hx hy;split at h
   ·rename_i sz hs;split at h
    ·rename_i row hi;exact ok (KM bl hu hx hy hs hi h.1) (bN bl fun c e=>by grind) h.2
    ·grind
   ·grind
  ·rename_i e k sz off len cx kd i hu hx hy;exact ok (KO bl hu hx hy h.1 h.2.1 h.2.2.1) (bN bl fun c e=>by grind) h.2.2.2
  ·rename_i len e k sz i j kd q hu hx hy;split at h
   ·rename_i m hs;exact ok (EW bl hu hx hy hs h.1 h.2.1) (bN bl fun c e=>by grind) h.2.2
   ·grind
  ·rename_i len e row kd q hu hx hy;split at h
   ·rename_i m hs;exact ok (EX bl hu hx hy hs h.1 h.2.1) (bN bl fun c e=>by grind) h.2.2
   ·grind
  ·grind
 |index t x i =>
  rw[bl] at h;simp only[a8,bc] at h;split at h
  ·rename_i s kd k hu hx hy;split at h
   ·rename_i b hi;exact ok (Ix bl hu hx hy hi) (bN bl fun c e=>by grind) h
   ·grind
  ·rename_i len e l kd q hu hx hy;split at h
   ·rename_i m hs;split at h
    ·rename_i a ha;exact ok (Iy bl hu hx hy hs ha h.1 h.2.1) (bN bl fun c e=>by grind) h.2.2
    ·grind
   ·grind
  ·grind
 |slice t x lo hi mx =>
  rw[bl] at h;obtain⟨r,S',hr,hK⟩:=Ou (n:=n) bl h;exact ok hr (bN bl fun c e=>by grind) hK
 |extract x i =>
  rw[bl] at h;simp only[a8,bc] at h;split at h
  ·rename_i l hx;split at h
   ·rename_i a ha;exact ok (KK bl hx ha) (bN bl fun c e=>by grind) h
   ·grind
  ·grind
 |makeSlice t l c =>
  rw[bl] at h;simp only[a8,bc] at h;split at h
  ·rename_i e ka a kb b he hl hc;split at h
   ·rename_i z sz by_ hz hs pG;split at h
    ·rename_i hb;simp only[Bool.and_eq_true] at hb;obtain⟨h1,rfl,h2,h3,hK⟩:=h;have hu:P.underlying t=some (.slice e):=by grind[fZ]
     exact ok (Ow bl hu hz hs pG (Nat.eq_of_beq_eq_true hb.1) (Nat.lt_of_lt_of_le Nat.zero_lt_one (Nat.le_of_ble_eq_true hb.2)) hl hc h1 h2 h3) (bN bl fun c e=>by grind) hK
    ·grind
   ·grind
  ·grind
 |range t x =>
  rw[bl] at h;simp only[a8] at h;split at h
  ·rename_i s hu hx;exact ok (Kf bl hu hx) (bN bl fun c e=>by grind) h
  ·grind
 |next x isStr =>
  rw[bl] at h;simp only[a8] at h;split at h
  ·rename_i k sz hx;obtain⟨⟨s,pos⟩,hk,d,hd,h⟩:=h.out;have hk:=Po hk;cases d with
   |true=>exact ok (KW bl hx hk (of_decide_eq_true hd)) (bN bl fun c e=>by grind) h
   |false=>exact ok (KX bl hx hk (of_decide_eq_false hd)) (bN bl fun c e=>by grind) h
  ·grind
 |makeFunc f first cap=>rw[bl] at h;exact ok (Iu bl) (bN bl fun c e=>by grind) h
 |nilCheck x =>
  rw[bl] at h;simp only[a8,bc] at h;split at h
  ·rename_i c hx;have:=F3 (P:=P) (w0:=w0) (n:=n) (S:=S) bl (.inl ⟨c,hx⟩);rw[hx] at this;exact ok this (bN bl fun c e=>by grind) h
  ·rename_i k sz i j hx;have:=F3 (P:=P) (w0:=w0) (n:=n) (S:=S) bl (.inr ⟨k,sz,i,j,hx⟩);rw[hx] at this;exact ok this (bN bl fun c e=>by grind) h
  ·grind
 |call c =>
  rw[bl] at h;simp only[a8,bc] at h;split at h
  ·rename_i f hc;unfold Ay at h;split at h
   ·rename_i gf first cap hf
    split at h
    ·rename_i e1 e2;obtain⟨r,S',bH,hK⟩:=h;have e1:first=#[]:=by grind
     have e2:cap=#[]:=by grind
     subst e1 e2;refine⟨r,S',Mf bl hc (fun A g a w hS hA=>?_) bH,hK⟩;have h1:=hA.ev f;rw[hf] at h1;refine⟨#[],#[],bI h1,?_⟩;have e:(#[]:Array Value)++c.args.map a.eval++#[]=c.args.map a.eval:=by simp
     rw[e];exact oN hA c.args
    ·grind
   ·rename_i gf first cap hf
    obtain⟨r,S',bH,hK⟩:=h;refine⟨r,S',Mf bl hc (fun A g a w hS hA=>?_) bH,hK⟩;have h1:=hA.ev f;rw[hf] at h1;obtain⟨y,hy⟩:∃ y,a.eval f=y:=⟨_,rfl⟩;rw[hy] at h1;cases h1 with
    |@fn _ _ _ cs ds p1 p2 p3 p4 =>
     exact⟨cs,ds,hy,il (il ⟨p1,p3⟩ (oN hA c.args)) ⟨p2,p4⟩⟩
   ·grind[Ey]
   ·grind
  ·rename_i b hc;unfold mR at h;split at h
   ·split at h
    ·rename_i t a gG bj;obtain⟨x,hx,G1⟩:=XK bj;unfold bc at h;split at h
     ·rename_i m hlen;unfold lenOf at hlen;split at hlen
      ·rename_i e m' hu hs hm;obtain rfl:=oJ_ hlen;exact ok (LB bl hc (toList_one gG) hx G1 hm hu (.inl ⟨e,rfl,fun s e=>by rw[e] at hs;cases hs⟩)) (bN bl fun c e=>by grind) h
      ·rename_i m' hu hs hm;obtain rfl:=oJ_ hlen;refine ok (LB bl hc (toList_one gG) hx G1 hm hu (.inr ⟨rfl,?_⟩)) (bN bl fun c e=>by grind) h;unfold isStr at hs;split at hs
       ·grind
       ·grind
      ·grind
     ·grind
    ·grind
   ·split at h
    ·rename_i t t2 a b gG bj;obtain⟨x,y,kr,G1,Q3⟩:=Fj bj;split at h
     ·rename_i e e2 he Gm;split at h
      ·rename_i hz;obtain⟨more,hm,h⟩:=h.out;split at hz
       ·rename_i z sz OV hs;have elem:∀ {t e:TypeId},fZ P t=some e->P.underlying t=some (.slice e):=by grind[fZ]
        obtain⟨r,S',hr,hK⟩:=KQ (n:=n) (w0:=w0) bl hc (toList_two gG) kr G1 Q3 (elem he) (elem Gm) hm h.1 OV hs (Nat.eq_of_beq_eq_true hz) h.2;exact ok hr (bN bl fun c e=>by grind) hK
       ·grind
      ·grind
     ·grind
    ·grind
   ·split at h
    ·rename_i k a k' b bj;obtain⟨x,y,kr,G1,Q3⟩:=Fj bj;split at h
     ·rename_i hk;obtain rfl:=of_decide_eq_true hk;exact ok (W4 bl hc kr G1 Q3) (bN bl fun c e=>by grind) h
     ·grind
    ·grind
   ·split at h
    ·rename_i k a k' b bj;obtain⟨x,y,kr,G1,Q3⟩:=Fj bj;split at h
     ·rename_i hk;obtain rfl:=of_decide_eq_true hk;exact ok (W5 bl hc kr G1 Q3) (bN bl fun c e=>by grind) h
     ·grind
    ·grind
   ·grind
  ·grind
 |_=>rw[bl] at h;exact h.elim
end
section
variable {P:Program}{w0:World}{rd:Bool}{n:Nat}{o:Oper}{α:AA}{S S':ae}{r:AV}
def rT (P:Program) (w0:World) (n:Nat) (ops:Array Oper) (l:List Nat) (α:AA) (S:ae) (au:AA) (S':ae):Prop :=
 ∀ (F:Fence) (m:Nat) (A:Nat->Prop) (g:Gh) (a:Act) (w:World) (Q:Exit->Act->World->Prop),ir F->St w0 A g S w->bR g w n α a ->
  (∀ (a':Act) (w':World) (g':Gh),St w0 A g' S' w'->bR g' w' n au a'->Ext A g w g' w'->Q .normal a' w')->wpOpsIn F m P ops Q l a w
theorem lE {g:Gh}{w:World}{a:Act}{x:Value}{b:AV}{d:Option Tmp}(hA:bR g w n α a) (hd:(match d with|some d=>Nat.blt d n|none=>true)=true) (hx:aF g w b x):bR g w n (α.put d b) (a.put d x):=by
 cases d with
 |none=>exact hA.Sj
 |some d=>exact hA.put (Nat.lt_of_lt_of_le (Nat.lt_succ_self d) (Nat.le_of_ble_eq_true hd)) hx
theorem pW {g:Gh}{w:World}{a:Act}{ops:Array Oper}{j:Nat}{y:Option Bool}(hA:bR g w n α a) (h:oX ops α j=some y):yielded ops a.tmps j=y:=by
 unfold oX at h;unfold yielded;split at h
 ·rename_i t ht;have key:∀ x,α.tm t=.v x->a.tmps[t]?=some x:=by
   intro x hc;have aA:t < n:=by
    rcases Nat.lt_or_ge t n with h|h
    ·grind
    ·have:=hA.out t h;rw[this] at hc;cases hc
   have h1:=hA.tm t aA;rw[hc] at h1;have h2:=bI h1;have hs:t < a.tmps.size:=by rw[hA.size];exact aA
   rw[Array.getElem?_eq_getElem hs];rw[Array.getD_eq_getD_getElem?,Array.getElem?_eq_getElem hs] at h2;simpa using h2
  split at h
  ·grind
  ·grind
  ·grind
 ·grind
theorem rT.step {ops:Array Oper}{i:Nat}{rest:List Nat}{au:AA}{bW:ae}(hi:ops[i]?=some o) (hd:(match o.dst with|some d=>Nat.blt d n|none=>true)=true)
  (hw:∀ (g:Gh) (w:World) (a:Act),bR g w n α a->Region.wanted o (yielded ops a.tmps)=true) (h:ez P w0 n o α S r bW) (k:rT P w0 n ops rest (α.put o.dst r) bW au S'):rT P w0 n ops (i::rest) α S au S':=by
 intro F m A g a w Q hF hS hA hQ;simp only[wpOpsIn,hi];rw[if_pos (hw g w a hA)];refine⟨fun f _=>hF.1 f,h F m A g a w _ Q hF hS hA fun v w' g' hr fk hE=>?_⟩;exact k F m A g' _ w' Q hF fk (lE (hA.later hE.toLater) hd hr) fun a' kR vP h1 h2 h3=>hQ a' kR vP h1 h2 (hE.trans h3)
theorem cC.region {id:Nat}{ops:Array Oper}{au:AA}(h:rT P w0 n ops (List.range ops.size) α S au S'):cC P w0 rd n (.region id ops false) α S .normal au S' :=
 fun F m A g a w hF hR hS hA=>wpIn_region (h F m A g a w _ hF hS hA fun a' w' g' h1 h2 h3=>⟨rfl,g',h1,h2,h3⟩)
def MD (P:Program) (α:AA) (S:ae):ResultVar->Option AV
 |.tmp t=>some (α.tm t)
 |.cell a t=>uK P S t (α.tm a)
def yy (P:Program) (α:AA) (S:ae):List ResultVar->Option (List AV)
 |[]=>some []
 |r::rs=>match MD P α S r with
  |some a=>match yy P α S rs with|some l=>some (a::l)|none=>none
  |none=>none
def yA (P:Program) (rs:Array ResultVar) (α:AA) (S:ae):Option AV :=
 match yy P α S rs.toList with
 |some [a]=>some a
 |some l=>some (.aG l)
 |none=>none
def jS (S:ae):List DE->ae
 |[]=>S
 |d::ks=>jS (S.set d.k none) ks
def yx (S:ae):List DE->Bool
 |[]=>true
 |.ob k::ks=>match S.get k with|some .df=>yx (S.set k none) ks|_=>false
 |.del _ _ _::_=>false
def Hz (P:Program) (rs:Array ResultVar) (R:AV->ae->Prop) (ex:Exit) (α:AA) (S:ae):Prop :=
 match ex with
 |.normal|.ret=>match yx S α.df,yA P rs α (jS S α.df) with
  |true,some r=>R r (jS S α.df)
  |_,_=>False
 |_=>False
def Ox (tmps:Array Value) (rv:ResultVar):Sem Value :=
 match rv with
 |.tmp t=>pure (tmps.getD t undef)
 |.cell c t=>do loadVar t (<-asAddr (tmps.getD c undef))
theorem Ed (fn:Func) (tmps:Array Value):results fn tmps=(do
  let vs <-fn.results.mapM (Ox tmps)
  pure (if h:vs.size=1 then vs[0] else .tuple vs)):=by
 unfold results;congr 1
theorem Oy {A:Nat->Prop}{g:Gh}{w:World}{a:Act}{rv:ResultVar}{b:AV}(hS:St w0 A g S w) (hA:bR g w n α a) (h:MD P α S rv=some b) :
  ∃ x,(Ox a.tmps rv).run P w=.ok x w/\aF g w b x:=by
 have ev:=fun t=>hA.ev (.tmp t);cases rv with
 |tmp t =>
  obtain rfl:=oJ_ h;exact⟨_,rfl,ev t⟩
 |cell c t =>
  obtain⟨b',q,x,h1,h2,h3⟩:=Bs (t:=t) hS h (ev c);have h1:a.tmps.getD c undef=.pointer (some ⟨b',q,none⟩):=h1;exact⟨x,by simp[Ox,h1,asAddr,h2],h3⟩
theorem xJ {A:Nat->Prop}{g:Gh}{w:World}{a:Act}(hS:St w0 A g S w) (hA:bR g w n α a):∀ {rs:List ResultVar}{l:List AV},yy P α S rs=some l ->
  ∃ xs:List Value,(rs.mapM (Ox a.tmps)).run P w=.ok xs w/\xs.length=l.length/\∀ (i:Nat) (b:AV) (x:Value),l[i]?=some b->xs[i]?=some x->aF g w b x
 |[],l,h=>by
  obtain rfl:=oJ_ h;exact⟨[],by simp,rfl,fun i b x h=>by grind⟩
 |rv::rs,l,h=>by
  simp only[yy] at h;split at h
  ·rename_i b hb;split at h
   ·rename_i l' hl;obtain rfl:=oJ_ h;obtain⟨x,h1,h2⟩:=Oy hS hA hb;obtain⟨xs,h3,h4,h5⟩:=xJ hS hA hl;refine⟨x::xs,?_,by grind,fun i b' y Bm hy=>?_⟩
    ·rw[List.mapM_cons];simp only[Sem.run_bind];rw[h1];simp only[Result.andThen_ok,Sem.run_bind];rw[h3]
     rfl
    ·grind
   ·grind
  ·grind
theorem Dp {A:Nat->Prop}{g:Gh}{w:World}{a:Act}{fn:Func}{b:AV}(hS:St w0 A g S w) (hA:bR g w n α a) (h:yA P fn.results α S=some b):∃ x,(results fn a.tmps).run P w=.ok x w/\aF g w b x:=by
 have e:∀ {l:List AV}{xs:List Value},xs.length=l.length->(∀ (i:Nat) (b:AV) (x:Value),l[i]?=some b->xs[i]?=some x->aF g w b x)->(xs.toArray.size=1->∃ a,l=[a])/\aF g w (.aG l) (.tuple xs.toArray):=by
  intro l xs h1 h2;refine⟨fun h3=>?_,.aG (by grind) (fun i b x hb hx=>h2 i b x hb (by grind))⟩
  match l,h1 with
  |[a],_=>exact⟨a,rfl⟩
  |[],h1=>simp only[List.size_toArray,h1,List.length_nil] at h3;cases h3
  |_::_::_,h1=>simp only[List.size_toArray,h1,List.length_cons] at h3;omega
 unfold yA at h;split at h
 ·rename_i a0 hl;obtain rfl:=oJ_ h;obtain⟨xs,h1,h2,h3⟩:=xJ hS hA hl;clear e
  match xs,h2,h1,h3 with
  |[x],_,h1,h3 =>
   refine⟨x,?_,h3 0 _ x rfl rfl⟩;simp only[Ed,Array.mapM_eq_mapM_toList,Sem.run_bind,Sem.run_map];rw[h1]
   rfl
 ·rename_i l bU hl;obtain rfl:=oJ_ h;obtain⟨xs,h1,h2,h3⟩:=xJ hS hA hl;obtain⟨e1,e2⟩:=e h2 h3;refine⟨_,?_,e2⟩;have hs:¬ xs.toArray.size=1:=fun h=>by grind
  simp only[Ed,Array.mapM_eq_mapM_toList,Sem.run_bind,Sem.run_map];rw[h1];simp only[Result.andThen_ok,dif_neg hs]
  rfl
 ·grind
end
end Go.Proofs.YtbpabjmnhggajaaGreat
