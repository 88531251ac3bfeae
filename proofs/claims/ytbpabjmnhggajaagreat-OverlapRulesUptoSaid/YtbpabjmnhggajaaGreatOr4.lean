import Derived.Laws.MakeOwn
import Derived.Laws.RangeAny
import Derived.Test.YtbpabjmnhggajaaGreatOr3
namespace Go.Proofs.YtbpabjmnhggajaaGreat
set_option linter.all false
open Go.RowKit
variable {b:AV}{K:AV->af->Prop}{a:Act}{s:ByteArray}{g:Gh}{l:Int}{sz:Nat}{A:Nat->Prop}{f x:Operand}{hi lo:Option Operand}{t:TypeId}{w:World}
section
variable {P:Program}{w0:World}{n:Nat}{o:Oper}{α:AA}{S S':af}{r:AV}
theorem run_sliceBound {kd:IntKind}{i:Int}{y:Nat}{code:BoundsCode}(h0:0<=i) (h:i<=y):(Instr.sliceBound (.int kd i) y code).run P w=.ok i.toNat w:=by
 simp[Instr.sliceBound,asIntOf,h0,h]
theorem F6 (b:cA g w n α a) {d:Int}(h:mK (lo.map α.ev) d=some l):(lo=none/\l=d)\/∃x kd,lo=some x/\a.eval x=.int kd l:=by
 cases lo with
 |none=>simp[mK]at h;exact .inl ⟨rfl,h.symm⟩
 |some x =>
  right;have c:=b.ev x;simp only[aE_,mK]at h;split at h
  ·grind
  ·grind[b_]
  ·grind
theorem nU (d:cA g w n α a) {isSl:Bool}{len cap:Nat}{h:Int}(j:mK (lo.map α.ev) 0=some l) (k:mK (hi.map α.ev) len=some h) (h0:0<=l) (h1:l<=h) (h2:h<=cap) :
  (Instr.sliceBounds isSl len cap (lo.map a.eval) (hi.map a.eval) none).run P w=.ok (l.toNat,h.toNat,cap) w:=by
 have e:∀code (w:World),(match lo.map a.eval with|some v=>Instr.sliceBound v h.toNat code|none=>pure 0:Sem Nat).run P w=.ok l.toNat w:=by
  intro code w;rcases F6 d j with ⟨rfl,rfl⟩|⟨x,b,rfl,c⟩
  ·rfl
  ·grind[run_sliceBound]
 rcases F6 d k with ⟨rfl,rfl⟩|⟨x,b,rfl,c⟩
 ·have:=e .sliceB w;simp only[cW_]at this ⊢;cases lo with
  |none=>simp only[bj_]at this ⊢;simp[Instr.sliceBounds];simpa using this
  |some y=>simp only[aE_,bj_]at this ⊢;simp[Instr.sliceBounds,this]
 ·have:=e .sliceB w;have f:=λcode=>run_sliceBound (P:=P) (w:=w) (kd:=b) (i:=h) (y:=cap) (code:=code) (by omega) h2;cases lo with
  |none=>simp only[bj_,aE_,c]at this ⊢;simp[Instr.sliceBounds,f];simpa using this
  |some y=>simp only[aE_,c]at this ⊢;simp[Instr.sliceBounds,f,this]
theorem E_ (o:cA g w n α a) {isSl:Bool}{len cap:Nat}{y:Operand}{c d:IntKind}{h m:Int}(p:mK (lo.map α.ev) 0=some l) (e:a.eval x=.int c h) (f:a.eval y=.int d m) (h0:0<=l) (h1:l<=h) (h2:h<=m) (h3:m<=cap) :
  (Instr.sliceBounds isSl len cap (lo.map a.eval) (some (a.eval x)) (some (a.eval y))).run P w=.ok (l.toNat,h.toNat,m.toNat) w:=by
 have j:=λcode=>run_sliceBound (P:=P) (w:=w) (kd:=d) (i:=m) (y:=cap) (code:=code) (by omega) h3;have k:=λcode=>run_sliceBound (P:=P) (w:=w) (kd:=c) (i:=h) (y:=m.toNat) (code:=code) (by omega) (by omega);rcases F6 o p with ⟨rfl,rfl⟩|⟨z,b,rfl,q⟩
 ·simp[Instr.sliceBounds,e,f,j,k]
 ·have r:=λcode=>run_sliceBound (P:=P) (w:=w) (kd:=b) (i:=l) (y:=h.toNat) (code:=code) h0 (by omega);simp[Instr.sliceBounds,e,f,q,j,k,r]
theorem QW {ex ex':Bool}{rows:List (List AV)}{B:Option Addr}{c l h m:Nat}(r:aN g w (.sl ex rows) (.slice B rows.length c)) (s:∀row ∈ rows,row.length=sz) (h1:l<=h) (h2:h<=rows.length) (h3:h<=m) (t:ex'=true->m=h) :
  aN g w (.sl ex' ((rows.take h).drop l)) (.slice (if m=l then B else B.map (·.add (l*sz))) (h - l) (m - l)):=by
 have hlen:((rows.take h).drop l).length=h - l:=by grind
 by_cases c0:h=l
 ·subst c0;have e:(rows.take h).drop h=[]:=by grind
  rw[e,bk_];exact .nil (λh=>by grind)
 ·cases r with
  |nil u=>simp at h2;omega
  |@sl _ _ b q d _ val v u x f z y =>
   have e:d=sz:=by
    have k:0 < rows.length:=dp_.2 v;have A:=f 0 _ (ai_ k);have C:=s _ (cp_ k);omega
   subst e;have n:∀(i:Nat) (row:List AV),((rows.take h).drop l)[i]?=some row->rows[l+i]?=some row:=by grind
   have:=aN.sl (g:=g) (w:=w) (ex:=ex') (rows:=(rows.take h).drop l) (b:=b) (o:=q+l*d) (sz:=d) (c:=m - l) (val:=λi j=>val (l+i) j) (λe=>by grind) (λh=>by grind) (by grind)
    (λi row hi=>f _ row (n i row hi)) (λi j row a hi p=>by grind) (λi j row a hi p=>y (l+i) j row a (n i row hi) p)
   rw[hlen]at this;rw[if_neg (by omega)];simpa[jh] using this
theorem Bn {d:TypeDesc}(b:P.underlying t=some d) (c:∀k e,d ≠ .array k e) (x:Value) (lo hi a:Option Value):(Instr.sliceAt t x lo hi a).run P w=(Instr.slice t x lo hi a).run P w:=by
 simp only[Instr.sliceAt,Sem.run_bind,run_underlying b,Result.andThen_ok]
theorem SN {p:Option Operand}(ho:o.op=.slice t x lo hi p) (h:r7 P t K S (α.ev x) (lo.map α.ev) (hi.map α.ev) (p.map α.ev)):∃r S',a8 P w0 n o α S r S'/\K r S':=by
 have fin:∀(r:AV) {d:TypeDesc},P.underlying t=some d->(∀k e,d ≠ .array k e)->(∀(A:Nat->Prop) (g:Gh) (a:Act) (w:World),St w0 A g S w->cA g w n α a->∃v,(Instr.slice t (a.eval x) (lo.map a.eval) (hi.map a.eval) (p.map a.eval)).run P w=.ok v w/\aN g w r v)->K r S->∃r S',a8 P w0 n o α S r S'/\K r S':=by
  intro r d i hd dF H;refine⟨r,S,a8.quiet λA g a w O b=>?_,H⟩;obtain⟨v,D,U⟩:=dF A g a w O b;refine⟨v,?_,U⟩;simp only[execOp,ho,Sem.run_bind,Bn i hd,D,Result.andThen_ok]
  rfl
 unfold r7 at h;split at h
 ·rename_i s I N;split at h
  ·rename_i l q i E M;obtain⟨F,D,U,H⟩:=h;refine fin _ i (λk e h=>by grind) (λA g a w O b=>?_) H;have f:=b.ev x;rw[I]at f;have u:p=none:=by cases p<;>simp_all
   subst u;refine⟨_,?_,.v⟩;have:=nU (P:=P) (isSl:=false) (cap:=s.size) (w:=w) b E M F D (by omega);simp[Instr.slice,b_ f,run_underlying i,this]
  ·grind
 ·rename_i ex rows I N;split at h
  ·rename_i e l q i E M;obtain⟨x9,SO,F,D,U,H⟩:=h;obtain⟨sz,G⟩:=cT_.1 SO;refine fin _ i (λk e h=>by grind) (λA g a w O b=>?_) H;have f:=b.ev x;rw[I]at f;have u:p=none:=by cases p<;>simp_all
   subst u;obtain⟨B,c,C,J,_⟩:=sR f;rw[C]at f;have L:=nU (P:=P) (isSl:=true) (cap:=c) (w:=w) b E M F D (by omega);refine⟨_,?_,QW (ex':=false) (m:=c) f (λrow hr=>by have:=x9 row hr;rw[G]at this;exact (oJ_ this).symm) (show l.toNat<=q.toNat by omega) (by omega) (by omega) (λh=>by grind)⟩;simp[Instr.slice,C,run_underlying i,L,c6 G]
  ·grind
 ·rename_i ex rows Z m I N;split at h
  ·rename_i e l Q q i E M;obtain⟨x9,SO,F,D,rfl,U,H⟩:=h;obtain⟨sz,G⟩:=cT_.1 SO;refine fin _ i (λk e h=>by grind) (λA g a w O b=>?_) H;have f:=b.ev x;rw[I]at f;obtain⟨y,rfl,hy⟩:∃y,p=some y/\α.ev y=.v (.int Z q):=by cases p<;>simp_all
   obtain⟨z,rfl,hz⟩:∃z,hi=some z/\α.ev z=.v (.int Q q):=by cases hi<;>simp_all
   have V:=b.ev y;have W:=b.ev z;rw[hy]at V;rw[hz]at W;obtain⟨B,c,C,J,_⟩:=sR f;rw[C]at f;have L:=E_ (P:=P) (isSl:=true) (len:=rows.length) (cap:=c) (w:=w) b E (b_ W) (b_ V) F D (bf_ _) (by omega);refine⟨_,?_,QW (ex':=true) (m:=q.toNat) f (λrow hr=>by have:=x9 row hr;rw[G]at this;exact (oJ_ this).symm) (show l.toNat<=q.toNat by omega) (by omega) (ac_ _) (λ_=>rfl)⟩;simp only[aE_];simp[Instr.slice,C,run_underlying i,L,c6 G]
  ·grind
 ·rename_i k sz off len cx I N;split at h
  ·rename_i e q i oo M;obtain⟨G,F,D,H⟩:=h;refine fin _ i (λk e h=>by grind) (λA g a w O b=>?_) H;have f:=b.ev x;rw[I]at f;have u:p=none:=by cases p<;>simp_all
   subst u;obtain⟨c,C,T,X,hp,Y,J⟩:=nt f;have E:mK (lo.map α.ev) 0=some 0:=by rw[oo];rfl
   have L:=nU (P:=P) (isSl:=true) (cap:=c) (w:=w) b E M (bf_ _) F (by omega);have R:(Instr.slice t (a.eval x) (lo.map a.eval) (hi.map a.eval) (Option.map a.eval none)).run P w=.ok (.slice (some ⟨g.ob k,off*sz,none⟩) q.toNat c) w:=by
    simp[Instr.slice,C,run_underlying i,L,c6 G,jh]
   exact⟨_,R,.ob T X hp Y (by omega)⟩
  ·rename_i e Z l q i oo M;obtain⟨G,F,D,U,hK1,JN⟩:=h;have E:mK (lo.map α.ev) 0=some l:=by rw[oo];rfl
   by_cases c0:l=q
   ·refine fin _ i (λk e h=>by grind) (λA g a w O b=>?_) (hK1 c0);have f:=b.ev x;rw[I]at f;have u:p=none:=by cases p<;>simp_all
    subst u;obtain⟨c,C,T,X,hp,Y,J⟩:=nt f;have L:=nU (P:=P) (isSl:=true) (cap:=c) (w:=w) b E M F D (by omega);have R:(Instr.slice t (a.eval x) (lo.map a.eval) (hi.map a.eval) (Option.map a.eval none)).run P w=.ok (.slice (if c=l.toNat then some ⟨g.ob k,off*sz,none⟩ else (some ⟨g.ob k,off*sz,none⟩:Option Addr).map (·.add (l.toNat*sz))) 0 (c - l.toNat)) w:=by
     simp[Instr.slice,C,run_underlying i,L,c6 G,c0]
    exact⟨_,R,.nil (λh=>by grind)⟩
   ·refine fin _ i (λk e h=>by grind) (λA g a w O b=>?_) (JN (by omega));have f:=b.ev x;rw[I]at f;have u:p=none:=by cases p<;>simp_all
    subst u;obtain⟨c,C,T,X,hp,Y,J⟩:=nt f;have L:=nU (P:=P) (isSl:=true) (cap:=c) (w:=w) b E M F D (by omega);have dm:¬ c=l.toNat:=by omega
    have R:(Instr.slice t (a.eval x) (lo.map a.eval) (hi.map a.eval) (Option.map a.eval none)).run P w=.ok (.slice (some ⟨g.ob k,(off+l.toNat)*sz,none⟩) (q.toNat - l.toNat) (c - l.toNat)) w:=by
     simp[Instr.slice,C,run_underlying i,L,c6 G,dm,jh,aJ_]
    refine⟨_,R,.ob T (λm u=>?_) (by omega) (λu=>?_) (by omega)⟩
    ·cases cx with
     |none=>simp at u
     |some c'=>simp at u;have:=X c' rfl;omega
    ·cases cx with
     |none=>have:=Y rfl;omega
     |some c'=>simp at u
  ·grind
 ·rename_i k sz off len cx Z m I N;split at h
  ·rename_i e l Q q i E M;obtain⟨G,rfl,rfl,D,F,H⟩:=h;refine fin _ i (λk e h=>by grind) (λA g a w O b=>?_) H;have f:=b.ev x;rw[I]at f;obtain⟨y,rfl,hy⟩:∃y,p=some y/\α.ev y=.v (.int Z q):=by cases p<;>simp_all
   obtain⟨z,rfl,hz⟩:∃z,hi=some z/\α.ev z=.v (.int Q q):=by cases hi<;>simp_all
   have V:=b.ev y;have W:=b.ev z;rw[hy]at V;rw[hz]at W;obtain⟨c,C,T,X,hp,Y,J⟩:=nt f;have L:=E_ (P:=P) (isSl:=true) (len:=len) (cap:=c) (w:=w) b E (b_ W) (b_ V) (bf_ _) F (bf_ _) (by omega);have R:(Instr.slice t (a.eval x) (lo.map a.eval) (some (a.eval z)) (some (a.eval y))).run P w=.ok (.slice (some ⟨g.ob k,off*sz,none⟩) q.toNat q.toNat) w:=by
    simp[Instr.slice,C,run_underlying i,L,c6 G,jh]
   exact⟨_,R,.ob T (λm u=>by grind) (by omega) (λh=>by grind) (ac_ _)⟩
  ·grind
 ·grind
end
section
variable {P:Program}{w0:World}{n:Nat}{o:Oper}{α:AA}{S S':af}{r:AV}
theorem St.putObj {k:Nat}{o ob:Ob}(d:St w0 A g S w) (m:S.get k=some o) (s:g.al k) (D:∀J,o ≠ .fo J/\ob ≠ .fo J) {x':Obj}{w':World}(M:w'={ w with heap:=w.heap.setIfInBounds (g.ob k) x' })
  (E:∀q,w'.cell? ⟨g.ob k,q,none⟩=w.cell? ⟨g.ob k,q,none⟩) (N:Later g w g w'->w'.heap[g.ob k]?=some x'->eU g w' (g.ob k) (g.cp k) ob):Ext A g w g w'/\St w0 A g (S.set k (some ob)) w':=by
 obtain⟨O,k3,k4⟩:=d.cT k o m s;have F:w'.heap.size=w.heap.size:=by grind
 have n:∀b,b ≠ g.ob k->w'.heap[b]?=w.heap[b]?:=by grind
 have P:w'.heap[g.ob k]?=some x':=by grind
 have G:∀b q,w'.cell? ⟨b,q,none⟩=w.cell? ⟨b,q,none⟩:=by
  intro b q;by_cases e:b=g.ob k
  ·grind
  ·exact World.cell?_of_block (n b e)
 have u:Later g w g w':=⟨λ_ h=>h,λ_ _=>rfl,λ_ _=>rfl,λ_ _ h=>h,λb q _=>G b q⟩;have v:Ext A g w g w':={ u with size:=by grind,aM:=λb R H=>n b (λe=>H (by grind)),kr:=λ_ _ h=>.inl h };have key:∀l r,(S.set k (some ob)).get l=some r->(l=k/\r=ob)\/(l ≠ k/\S.get l=some r):=by
  intro l r x;have x:bE S.get k (some ob) l=some r:=x;by_cases e:l=k
  ·grind[aJ]
  ·grind[aO]
 refine⟨v,d.next v (by grind) (by grind) (by grind) d.al (λj p f a=>?_) (λi j p q hi f t a e=>?_) (λb q I=>by rw[F];exact d.dw b q I) rfl (λj J f a=>(key j _ f).elim (λe=>absurd e.2.symm (D J).2) λe=>⟨e.2,a⟩) (λj p f a=>.inr ((key j p f).elim (λe=>⟨j,o,a,e.1.symm ▸ m,rfl,.inl rfl⟩) λe=>⟨j,p,a,e.2,rfl,.inl rfl⟩))⟩
 ·rcases key j p f with ⟨rfl,rfl⟩|⟨y,f⟩
  ·grind
  ·obtain⟨z,U,K⟩:=d.cT j p f a;exact⟨z,by grind,K.later u (n _ (λe=>y (d.inj j k p _ f m a s e))) (λ_ h=>h) λJ V=>⟨rfl,by grind,λc E=>n c λe=>d.nb j J k o (by grind) a m s (λL=>y L.symm) (by grind),λ_ _ _ h=>h⟩⟩
 ·rcases key i p hi with ⟨rfl,_⟩|⟨W,B⟩<;>rcases key j q f with ⟨rfl,_⟩|⟨z,C⟩
  ·rfl
  ·exact d.inj i j _ q m C t a e
  ·exact d.inj i j p _ B m t a e
  ·exact d.inj i j p q B C t a e
theorem SP {e:TypeId}{l c:Operand}{z:Value}{by_:Nat}{p kb:IntKind}{a:Int}(C:o.op=.makeSlice t l c) (D:P.underlying t=some (.slice e)) (X:d_ P e=some z) (E:ep P e=some sz) (Y:ku P e=some by_)
  (F:z.cells.size=sz) (G:0 < sz) (H:α.ev l=.v (.int p a)) (I:α.ev c=.v (.int kb a)) (h1:0<=a) (h2:a*by_<=35184372088832) (h3:a<=9223372036854775807) :
  a8 P w0 n o α S (.ob S.nx sz 0 a.toNat none) (S.new (.arr sz (List.replicate a.toNat (z.cells.toList.map cK)) 0 true)):=by
 intro A g q w r s;obtain⟨i,hi,K⟩:=o7 E;have L:i.zero=some z:=by grind[d_]
 have Z:i.bytes=by_:=by grind[ku]
 have d:=s.ev l;have f:=s.ev c;rw[H]at d;rw[I]at f;have d:=b_ d;have f:=b_ f;have M:=run_make (P:=P) w t e i z D hi L p kb a a h1 (bf_ _) (by grind) h3;have N:∀q,¬ g.fz w.heap.size q:=λq O=>absurd (r.dw _ _ O) (bK_ _);obtain⟨Q,R⟩:=r.new (.cells (madeCells z.cells (a.toNat*i.size)) e) (.arr sz (List.replicate a.toNat (z.cells.toList.map cK)) 0 true) a.toNat (λJ=>by simp) (λhL=>by
  refine⟨_,e,dZ,?_,by simp,λ_=>by simp,λm row T=>?_,ax_ _,λq=>⟨λh=>absurd h (N q),λh=>by grind⟩⟩
  ·rw[size_madeCells,K]
  ·obtain⟨u,rfl⟩:=ar_.1 T;simp only[bH_]at u;simp only[cX_];refine⟨by grind,λj b v=>?_⟩;simp only[aS_,ba_]at v;obtain⟨y,U,rfl⟩:=v;have x:j < sz:=by grind
   refine⟨y,?_,rE y⟩;have aw:m*sz+j < a.toNat*sz:=o3 u x;have B:j < z.cells.size:=by omega
   have V:(m*sz+j) % z.cells.size=j:=by
    rw[F,cs_,ct_];exact cu_ x
   have W:(madeCells z.cells (a.toNat*i.size))[m*sz+j]?=some (z.cells[(m*sz+j) % z.cells.size]!):=by
    unfold madeCells;rw[bZ_,cr_,if_pos (by grind)]
    rfl
   rw[W,V,getElem!_pos z.cells j B,<-U,bd_,aG_ B])
 refine⟨.slice (some ⟨w.heap.size,0,none⟩) a.toNat a.toNat,_,_,.inl ?_,?_,R,Q⟩
 ·simp only[execOp,C,d,f,Sem.run_bind,M]
  rfl
 ·have:=aN.ob (g:=g.new S.nx w.heap.size a.toNat) (w:=w.alloc (.cells (madeCells z.cells (a.toNat*i.size)) e)) (k:=S.nx) (sz:=sz) (off:=0) (len:=a.toNat) (c:=a.toNat) (cx:=none) (.inr rfl) (λm h=>by grind)
   (by rw[aD_];exact bN_ (aJ _ _ _).symm) (λ_=>by rw[aD_];exact (aJ _ _ _).symm) (ac_ _)
  rw[show (g.new S.nx w.heap.size a.toNat).ob S.nx=w.heap.size from aJ _ _ _,aW_]at this;exact this
theorem NI (c:o.op=.range t x) (d:P.underlying t=some .string) (e:α.ev x=.v (.string s)):a8 P w0 n o α S (.pt S.nx 0 0 0) (S.new (.si s 0)):=by
 intro A g a w f h;have b:=h.ev x;rw[e]at b;have b:=b_ b;obtain⟨l,m⟩:=f.new (.stringIter s 0) (.si s 0) 0 (λJ=>by simp) (λp=>dZ);refine⟨.pointer (some ⟨w.heap.size,0,none⟩),_,_,.inl ?_,?_,m,l⟩
 ·simp only[execOp,c,b,Sem.run_bind,run_range_string w t s d]
  rfl
 ·have:=aN.pt (g:=g.new S.nx w.heap.size 0) (w:=w.alloc (.stringIter s 0)) (k:=S.nx) (sz:=0) (i:=0) (j:=0) (.inr rfl);rw[show (g.new S.nx w.heap.size 0).ob S.nx=w.heap.size from aJ _ _ _]at this;simpa using this
theorem QX {k:Nat}{v:Value}(h:aN g w (.pt k sz 0 0) v):v=.pointer (some ⟨g.ob k,0,none⟩)/\g.al k:=by
 cases h with
 |pt a=>exact⟨by simp,a⟩
theorem Po {k pos:Nat}(r:o.op=.next x true) (t:α.ev x=.pt k sz 0 0) (j:S.get k=some (.si s pos)) (h:pos < s.size) :
  a8 P w0 n o α S (.aL [.v (.bool true),.v (.int .i64 pos),.v (.int .i32 (Utf8.decode s pos).1)]) (S.set k (some (.si s (pos+(Utf8.decode s pos).2)))):=by
 intro A g a w l u;have e:=u.ev x;rw[t]at e;obtain⟨e,m⟩:=QX e;obtain⟨C,k3,k4⟩:=l.cT k _ j m;have k4:w.heap[g.ob k]?=some (.stringIter s pos):=k4;obtain⟨f,p⟩:∃f:World,f={ w with heap:=w.heap.setIfInBounds (g.ob k) (.stringIter s (pos+(Utf8.decode s pos).2)) }:=⟨_,rfl⟩;have v:f.heap[g.ob k]?=some (.stringIter s (pos+(Utf8.decode s pos).2)):=by grind
 obtain⟨z,B⟩:=l.putObj j m (λJ=>⟨by simp,by simp⟩) p (λq=>by simp[World.cell?,v,k4]) (ob:=.si s (pos+(Utf8.decode s pos).2)) (λ_ h=>h);refine⟨.tuple #[.bool true,.int .i64 pos,.int .i32 (Utf8.decode s pos).1],f,g,.inl ?_,?_,B,z⟩
 ·rw[p];simp[execOp,r,e,Instr.next,getObj,setObj,Sem.run,k4,h,goInt]
 ·refine .aL rfl (λi b y c d=>?_)
  match i with
  |0=>simp at c d;subst c d;exact .v
  |1=>simp at c d;subst c d;exact .v
  |2=>simp at c d;subst c d;exact .v
  |i+3=>simp at c
theorem Pp {k pos:Nat}(f:o.op=.next x true) (j:α.ev x=.pt k sz 0 0) (l:S.get k=some (.si s pos)) (h:¬ pos < s.size):a8 P w0 n o α S (.aL [.v (.bool false)]) S :=
 a8.quiet λA g a w m p=>by
  have c:=p.ev x;rw[j]at c;obtain⟨c,q⟩:=QX c;obtain⟨r,k3,k4⟩:=m.cT k _ l q;have k4:w.heap[g.ob k]?=some (.stringIter s pos):=k4;refine⟨.tuple #[.bool false],?_,?_⟩
  ·simp[execOp,f,c,Instr.next,getObj,Sem.run,k4,h]
  ·refine .aL rfl (λi b y d e=>?_)
   match i with
   |0=>simp at d e;subst d e;exact .v
   |i+1=>simp at d
end
section
variable {P:Program}{w0:World}{n:Nat}{o:Oper}{α:AA}{S S':af}{r:AV}
theorem lJ {l m:List AV}{xs ys:Array Value}(h:mj g w l xs) (k:mj g w m ys):mj g w (l++m) (xs++ys):=by
 refine⟨by simp[h.1,k.1],λi a x b d=>?_⟩;by_cases c:i < l.length
 ·rw[bb_ c]at b;rw[ca_ (by rw[h.1];exact c)]at d;exact h.2 i a x b d
 ·rw[be_ (by omega)]at b;rw[do_ (by rw[h.1];omega),h.1]at d;exact k.2 _ a x b d
theorem QY {c:Call}{b:FuncId}{args:List AV}{r:AV}(k:o.op=.call c) (l:c.callee=.value f)
  (p:∀(A:Nat->Prop) (g:Gh) (a:Act) (w:World),St w0 A g S w->cA g w n α a->∃first cap,a.eval f=.func (.func b) first cap/\mj g w args (first++c.args.map a.eval++cap)) (h:aG P w0 b args S r S'):iY P w0 n o α S r S':=by
 intro F m A g a w next Q d i q s
 rw[Oper.semAt_eq _ _ _ (λE e=>by grind)];obtain⟨first,cap,t,u⟩:=p A g a w i q;have x:(execOp a.eval o).run P w=.ok (.enter b (first++c.args.map a.eval++cap)) w:=by
  simp only[execOp,k,resolve,l,t,Deferred.ofValue,Sem.run_bind,Sem.run_pure,Result.andThen_ok,invoke];exact h.1 _ w
 rw[x,Oper.uponIn_enter];refine⟨λj=>(by rw[d.2.1]at j;cases j),(h.2 F (m - 1) A g _ w d i u).mono ?_⟩;rintro e y ⟨v,z,rfl,B,C,D⟩;exact s v y z B C D
theorem Ir {c:Call}{k:Nat}{r:AV}(t:o.op=.call c) (u:c.callee=.value f) (x:α.ev f=.yl k) (h:BP P w0 k (c.args.toList.map α.ev) S r S'):iY P w0 n o α S r S':=by
 intro F m A g a w next Q j z p B
 rw[Oper.semAt_eq _ _ _ (λJ e=>by grind)];have b:=p.ev f;rw[x]at b;obtain⟨y,q⟩:∃y,a.eval f=y:=⟨_,rfl⟩;rw[q]at b;cases b with
 |yl C =>
  obtain⟨l,fn,tmps,assign,body,d,i⟩:=h F (m - 1) A g (c.args.map a.eval) w j z C (qQ p c.args);have D:(execOp a.eval o).run P w=.ok (.round l fn tmps assign body) w:=by
   simp only[execOp,t,resolve,u,q,Deferred.ofValue,Sem.run_bind,Sem.run_pure,Result.andThen_ok,invoke];simpa using d
  rw[D,Oper.uponIn_round];refine⟨λs=>(by rw[j.2.1]at s;cases s),i.mono ?_⟩;rintro e E ⟨v,G,rfl,b,H,I⟩;exact B v E G b H I
theorem aca {β b:Type}{f:β->b}{l:Array β}{a:b}(h:l.toList.map f=[a]):∃x,l=#[x]/\f x=a:=by
 obtain⟨l⟩:=l
 match l,h with
 |[x],h=>exact⟨x,rfl,by grind⟩
theorem I4 {β c:Type}{f:β->c}{l:Array β}{a b:c}(h:l.toList.map f=[a,b]):∃x y,l=#[x,y]/\f x=a/\f y=b:=by
 obtain⟨l⟩:=l
 match l,h with
 |[x,y],h=>exact⟨x,y,rfl,by grind,by grind⟩
theorem b8 {op:Op}(a:o.op=op) (h:∀c,op ≠ .defer c):∀c,o.op ≠ .defer c:=λc e=>h c (a.symm.trans e)
theorem Dy (h:bu P w0 o.op α S K):∃r S',iY P w0 n o α S r S'/\K r S':=by
 have ok:∀{r:AV}{S':af},a8 P w0 n o α S r S'->(∀c,o.op ≠ .defer c)->K r S'->∃r S',iY P w0 n o α S r S'/\K r S':=λH J E=>⟨_,_,H.ops J,E⟩;cases p:o.op with
 |move x=>rw[p]at h;exact ok (run_move (.inl p)) (b8 p λc e=>by grind) h
 |assign x=>rw[p]at h;exact ok (run_move (.inr p)) (b8 p λc e=>by grind) h
 |pick c a b =>
  rw[p]at h;simp only[bu,bC]at h;split at h
  ·rename_i t F;have H:=XK (n:=n) (P:=P) (w0:=w0) (S:=S) p F;cases t with
   |true=>exact ok H (b8 p λc e=>by grind) h
   |false=>exact ok H (b8 p λc e=>by grind) h
  ·grind
 |alloc e =>
  rw[p]at h;simp only[bu,bC]at h;split at h
  ·rename_i z L;exact ok (UP p L) (b8 p λc e=>by grind) h
  ·grind
 |box e x =>
  rw[p]at h;simp only[bu,bC]at h;split at h
  ·rename_i u;exact ok (abV p u) (b8 p λc e=>by grind) h
  ·grind
 |build t parts =>
  rw[p]at h;simp only[bu,bC]at h;split at h
  ·rename_i a G;exact ok (Sp p G) (b8 p λc e=>by grind) h
  ·grind
 |buildSlice t len parts =>
  rw[p]at h;simp only[bu,bC]at h;split at h
  ·rename_i e he;split at h
   ·rename_i z sz L B;split at h
    ·rename_i R;simp only[al_]at R;obtain⟨⟨b1,b2⟩,b3⟩:=R;split at h
     ·rename_i rows H;have C:P.underlying t=some (.slice e):=by grind[l9]
      exact ok (IV p C L B (aq_ b1) (aH_ b2) (au_ cc_ (aq_ b3)) H) (b8 p λc e=>by grind) h
     ·grind
    ·grind
   ·grind
  ·grind
 |load t x =>
  rw[p]at h;simp only[bu,bC]at h;split at h
  ·rename_i a G;exact ok (UQ p G) (b8 p λc e=>by grind) h
  ·grind
 |store t x b =>
  rw[p]at h;simp only[bu,bC]at h;split at h
  ·rename_i a G;exact ok (Sq p G) (b8 p λc e=>by grind) h
  ·grind
 |binOp op t x y ty =>
  rw[p]at h;simp only[bu,bC]at h;split at h
  ·rename_i k a k' b u D;split at h
   ·rename_i c F;split at h
    ·rename_i I;obtain rfl:=of_decide_eq_true I;obtain⟨d,rfl,E⟩:=h;exact ok (UR p u D F) (b8 p λc e=>by grind) E
    ·grind
   ·split at h
    ·rename_i v T;exact ok (FU p u D T) (b8 p λc e=>by grind) h.out
    ·grind
  ·rename_i a b u D;split at h
   ·exact ok (Sr p u D h.1) (b8 p λc e=>by grind) h.2
   ·split at h
    ·rename_i v T;exact ok (FU p u D T) (b8 p λc e=>by grind) h.out
    ·grind
  ·rename_i a b n1 n2 u D;split at h
   ·rename_i v T;exact ok (FU p u D T) (b8 p λc e=>by grind) h.out
   ·grind
  ·grind
 |unOp op t x =>
  rw[p]at h;simp only[bu,bC]at h;split at h
  ·rename_i b u;exact ok (abW p u) (b8 p λc e=>by grind) h
  ·rename_i k a u;obtain⟨d,rfl,E⟩:=h;exact ok (abX p u) (b8 p λc e=>by grind) E
  ·grind
 |convert src dst x =>
  rw[p]at h;simp only[bu,bC]at h;split at h
  ·rename_i k0 k k' a B J u;obtain⟨d,rfl,E⟩:=h;exact ok (Pa p B J u) (b8 p λc e=>by grind) E
  ·rename_i s B J u;exact ok (Pb p B J u) (b8 p λc e=>by grind) h
  ·grind
 |fieldAddr s x f =>
  rw[p]at h;simp only[bu,bC]at h;split at h
  ·rename_i fs C;split at h
   ·rename_i fd M;split at h
    ·rename_i m B;split at h
     ·rename_i row u;exact ok (Pc p C M B u) (b8 p λc e=>by grind) h
     ·rename_i k sz i j u;exact ok (Pd p C M B u) (b8 p λc e=>by grind) h
     ·grind
    ·grind
   ·grind
  ·grind
 |field t x f =>
  rw[p]at h;simp only[bu,bC]at h;split at h
  ·rename_i fs C;split at h
   ·rename_i fd M;split at h
    ·rename_i l u;split at h
     ·rename_i a G;exact ok (Ss p C M u G) (b8 p λc e=>by grind) h
     ·grind
    ·grind
   ·grind
  ·grind
 |indexAddr t x i =>
  rw[p]at h;simp only[bu,bC]at h;split at h
  ·rename_i e ex rows U k C u D;split at h
   ·rename_i sz B;split at h
    ·rename_i row hi;exact ok (Ph p C u D B hi h.1) (b8 p λc e=>by grind) h.2
    ·grind
   ·grind
  ·rename_i e k sz off len cx U i C u D;exact ok (Pj p C u D h.1 h.2.1 h.2.2.1) (b8 p λc e=>by grind) h.2.2.2
  ·rename_i len e k sz i j U q C u D;split at h
   ·rename_i m B;exact ok (IW p C u D B h.1 h.2.1) (b8 p λc e=>by grind) h.2.2
   ·grind
  ·rename_i len e row U q C u D;split at h
   ·rename_i m B;exact ok (IX p C u D B h.1 h.2.1) (b8 p λc e=>by grind) h.2.2
   ·grind
  ·grind
 |index t x i =>
  rw[p]at h;simp only[bu,bC]at h;split at h
  ·rename_i s U k C u D;split at h
   ·rename_i b hi;exact ok (MO p C u D hi) (b8 p λc e=>by grind) h
   ·grind
  ·rename_i len e l U q C u D;split at h
   ·rename_i m B;split at h
    ·rename_i a G;exact ok (MP p C u D B G h.1 h.2.1) (b8 p λc e=>by grind) h.2.2
    ·grind
   ·grind
  ·grind
 |slice t x lo hi mx =>
  rw[p]at h;obtain⟨r,S',H,E⟩:=SN (n:=n) p h;exact ok H (b8 p λc e=>by grind) E
 |extract x i =>
  rw[p]at h;simp only[bu,bC]at h;split at h
  ·rename_i l u;split at h
   ·rename_i a G;exact ok (Pe p u G) (b8 p λc e=>by grind) h
   ·grind
  ·grind
 |makeSlice t l c =>
  rw[p]at h;simp only[bu,bC]at h;split at h
  ·rename_i e ka a kb b he hl F;split at h
   ·rename_i z sz by_ L B pe;split at h
    ·rename_i R;simp only[al_]at R;obtain⟨N,rfl,h2,h3,E⟩:=h;have C:P.underlying t=some (.slice e):=by grind[l9]
     exact ok (SP p C L B pe (aH_ R.1) (au_ cc_ (aq_ R.2)) hl F N h2 h3) (b8 p λc e=>by grind) E
    ·grind
   ·grind
  ·grind
 |range t x =>
  rw[p]at h;simp only[bu]at h;split at h
  ·rename_i s C u;exact ok (NI p C u) (b8 p λc e=>by grind) h
  ·grind
 |next x isStr =>
  rw[p]at h;simp only[bu]at h;split at h
  ·rename_i k sz u;obtain⟨⟨s,pos⟩,I,d,J,h⟩:=h.out;have I:=Uc I;cases d with
   |true=>exact ok (Po p u I (of_decide_eq_true J)) (b8 p λc e=>by grind) h
   |false=>exact ok (Pp p u I (of_decide_eq_false J)) (b8 p λc e=>by grind) h
  ·grind
 |makeFunc f first cap=>rw[p]at h;exact ok (ML p) (b8 p λc e=>by grind) h
 |nilCheck x =>
  rw[p]at h;simp only[bu,bC]at h;split at h
  ·rename_i c u;have:=JT (P:=P) (w0:=w0) (n:=n) (S:=S) p (.inl ⟨c,u⟩);rw[u]at this;exact ok this (b8 p λc e=>by grind) h
  ·rename_i k sz i j u;have:=JT (P:=P) (w0:=w0) (n:=n) (S:=S) p (.inr ⟨k,sz,i,j,u⟩);rw[u]at this;exact ok this (b8 p λc e=>by grind) h
  ·grind
 |call c =>
  rw[p]at h;simp only[bu,bC]at h;split at h
  ·rename_i f F;unfold Ei at h;split at h
   ·rename_i gf first cap M
    split at h
    ·rename_i e1 e2;obtain⟨r,S',b9,E⟩:=h;have e1:first=#[]:=by grind
     have e2:cap=#[]:=by grind
     subst e1 e2;refine⟨r,S',QY p F (λA g a w hS V=>?_) b9,E⟩;have N:=V.ev f;rw[M]at N;refine⟨#[],#[],b_ N,?_⟩;have e:(#[]:Array Value)++c.args.map a.eval++#[]=c.args.map a.eval:=by simp
     rw[e];exact qQ V c.args
    ·grind
   ·rename_i gf first cap M
    obtain⟨r,S',b9,E⟩:=h;refine⟨r,S',QY p F (λA g a w hS V=>?_) b9,E⟩;have N:=V.ev f;rw[M]at N;obtain⟨y,D⟩:∃y,a.eval f=y:=⟨_,rfl⟩;rw[D]at N;cases N with
    |@fn _ _ _ cs ds p1 p2 p3 p4 =>
     exact⟨cs,ds,D,lJ (lJ ⟨p1,p3⟩ (qQ V c.args)) ⟨p2,p4⟩⟩
   ·grind[Ir]
   ·grind
  ·rename_i b F;unfold oY at h;split at h
   ·split at h
    ·rename_i t a Z Q;obtain⟨x,u,O⟩:=aca Q;unfold bC at h;split at h
     ·rename_i m hlen;unfold lenOf at hlen;split at hlen
      ·rename_i e m' C B W;obtain rfl:=oJ_ hlen;exact ok (Qu p F (toList_one Z) u O W C (.inl ⟨e,rfl,λs e=>by rw[e]at B;cases B⟩)) (b8 p λc e=>by grind) h
      ·rename_i m' C B W;obtain rfl:=oJ_ hlen;refine ok (Qu p F (toList_one Z) u O W C (.inr ⟨rfl,?_⟩)) (b8 p λc e=>by grind) h;unfold isStr at B;split at B
       ·grind
       ·grind
      ·grind
     ·grind
    ·grind
   ·split at h
    ·rename_i t t2 a b Z Q;obtain⟨x,y,X,O,Y⟩:=I4 Q;split at h
     ·rename_i e e2 he vR;split at h
      ·rename_i L;obtain⟨more,W,h⟩:=h.out;split at L
       ·rename_i z sz TQ B;have elem:∀{t e:TypeId},l9 P t=some e->P.underlying t=some (.slice e):=by grind[l9]
        obtain⟨r,S',H,E⟩:=Pk (n:=n) (w0:=w0) p F (toList_two Z) X O Y (elem he) (elem vR) W h.1 TQ B (aH_ L) h.2;exact ok H (b8 p λc e=>by grind) E
       ·grind
      ·grind
     ·grind
    ·grind
   ·split at h
    ·rename_i k a k' b Q;obtain⟨x,y,X,O,Y⟩:=I4 Q;split at h
     ·rename_i I;obtain rfl:=of_decide_eq_true I;exact ok (abZ p F X O Y) (b8 p λc e=>by grind) h
     ·grind
    ·grind
   ·split at h
    ·rename_i k a k' b Q;obtain⟨x,y,X,O,Y⟩:=I4 Q;split at h
     ·rename_i I;obtain rfl:=of_decide_eq_true I;exact ok (ab0 p F X O Y) (b8 p λc e=>by grind) h
     ·grind
    ·grind
   ·grind
  ·grind
 |_=>rw[p]at h;exact h.elim
end
section
variable {P:Program}{w0:World}{rd:Bool}{n:Nat}{o:Oper}{α:AA}{S S':af}{r:AV}
def zn (P:Program) (w0:World) (n:Nat) (ops:Array Oper) (l:List Nat) (α:AA) (S:af) (e:AA) (S':af):Prop :=
 ∀(F:Fence) (m:Nat) (A:Nat->Prop) (g:Gh) (a:Act) (w:World) (Q:Exit->Act->World->Prop),kW F->St w0 A g S w->cA g w n α a ->
  (∀(d:Act) (b:World) (c:Gh),St w0 A c S' b->cA c b n e d->Ext A g w c b->Q .normal d b)->wpOpsIn F m P ops Q l a w
theorem pU {x:Value}{d:Option Tmp}(c:cA g w n α a) (e:(match d with|some d=>Nat.blt d n|none=>true)=true) (f:aN g w b x):cA g w n (α.put d b) (a.put d x):=by
 cases d with
 |none=>exact c.W9
 |some d=>exact c.put (au_ (aX_ d) (aq_ e)) f
theorem xG {ops:Array Oper}{j:Nat}{y:Option Bool}(b:cA g w n α a) (h:uG ops α j=some y):yielded ops a.tmps j=y:=by
 unfold uG at h;unfold yielded;split at h
 ·rename_i t k;have key:∀x,α.tm t=.v x->a.tmps[t]?=some x:=by
   intro x c;have d:t < n:=by
    rcases bo_ t n with h|h
    ·grind
    ·have:=b.out t h;rw[this]at c;cases c
   have e:=b.tm t d;rw[c]at e;have f:=b_ e;have i:t < a.tmps.size:=by rw[b.size];exact d
   rw[aG_ i];rw[aT_,aG_ i]at f;simpa using f
  split at h
  ·grind
  ·grind
  ·grind
 ·grind
theorem zn.step {ops:Array Oper}{i:Nat}{rest:List Nat}{e:AA}{j:af}(hi:ops[i]?=some o) (p:(match o.dst with|some d=>Nat.blt d n|none=>true)=true)
  (q:∀(g:Gh) (w:World) (a:Act),cA g w n α a->Region.wanted o (yielded ops a.tmps)=true) (h:iY P w0 n o α S r j) (k:zn P w0 n ops rest (α.put o.dst r) j e S'):zn P w0 n ops (i::rest) α S e S':=by
 intro F m A g a w Q b s c t;simp only[wpOpsIn,hi];rw[if_pos (q g w a c)];refine⟨λf _=>b.1 f,h F m A g a w _ Q b s c λv u x y z l=>?_⟩;exact k F m A x _ u Q b z (pU (c.later l.toLater) p y) λB C D E G H=>t B C D E G (l.trans H)
theorem dN.region {id:Nat}{ops:Array Oper}{b:AA}(h:zn P w0 n ops (List.range ops.size) α S b S'):dN P w0 rd n (.region id ops false) α S .normal b S' :=
 λF m A g a w c l d e=>wpIn_region (h F m A g a w _ c d e λo p f i j k=>⟨rfl,f,i,j,k⟩)
def SQ (P:Program) (α:AA) (S:af):ResultVar->Option AV
 |.tmp t=>some (α.tm t)
 |.cell a t=>yh P S t (α.tm a)
def DA (P:Program) (α:AA) (S:af):List ResultVar->Option (List AV)
 |[]=>some []
 |r::b=>match SQ P α S r with
  |some a=>match DA P α S b with|some l=>some (a::l)|none=>none
  |none=>none
def CX (P:Program) (b:Array ResultVar) (α:AA) (S:af):Option AV :=
 match DA P α S b.toList with
 |some [a]=>some a
 |some l=>some (.aL l)
 |none=>none
def m_ (S:af):List DE->af
 |[]=>S
 |d::ks=>m_ (S.set d.k none) ks
def I5 (S:af):List DE->Bool
 |[]=>true
 |.ob k::ks=>match S.get k with|some .df=>I5 (S.set k none) ks|_=>false
 |.del _ _ _::_=>false
def NJ (P:Program) (a:Array ResultVar) (R:AV->af->Prop) (ex:Exit) (α:AA) (S:af):Prop :=
 match ex with
 |.normal|.ret=>match I5 S α.df,CX P a α (m_ S α.df) with
  |true,some r=>R r (m_ S α.df)
  |_,_=>False
 |_=>False
def SR (tmps:Array Value) (rv:ResultVar):Sem Value :=
 match rv with
 |.tmp t=>pure (tmps.getD t undef)
 |.cell c t=>do loadVar t (<-asAddr (tmps.getD c undef))
theorem HM (fn:Func) (tmps:Array Value):results fn tmps=(do
  let vs <-fn.results.mapM (SR tmps)
  pure (if h:vs.size=1 then vs[0] else .tuple vs)):=by
 unfold results;congr 1
theorem SS {rv:ResultVar}(e:St w0 A g S w) (f:cA g w n α a) (h:SQ P α S rv=some b) :
  ∃x,(SR a.tmps rv).run P w=.ok x w/\aN g w b x:=by
 have ev:=λt=>f.ev (.tmp t);cases rv with
 |tmp t =>
  obtain rfl:=oJ_ h;exact⟨_,rfl,ev t⟩
 |cell c t =>
  obtain⟨i,q,x,d,j,k⟩:=ET (t:=t) e h (ev c);have d:a.tmps.getD c undef=.pointer (some ⟨i,q,none⟩):=d;exact⟨x,by simp[SR,d,asAddr,j],k⟩
theorem Br {A:Nat->Prop}{g:Gh}{w:World}{a:Act}(d:St w0 A g S w) (e:cA g w n α a):∀{c:List ResultVar}{l:List AV},DA P α S c=some l ->
  ∃xs:List Value,(c.mapM (SR a.tmps)).run P w=.ok xs w/\xs.length=l.length/\∀(i:Nat) (b:AV) (x:Value),l[i]?=some b->xs[i]?=some x->aN g w b x
 |[],l,h=>by
  obtain rfl:=oJ_ h;exact⟨[],by simp,rfl,λi b x h=>by grind⟩
 |rv::c,l,h=>by
  simp only[DA]at h;split at h
  ·rename_i b f;split at h
   ·rename_i o j;obtain rfl:=oJ_ h;obtain⟨x,k,p⟩:=SS d e f;obtain⟨xs,m,q,r⟩:=Br d e j;refine⟨x::xs,?_,by grind,λi s y t u=>?_⟩
    ·rw[List.mapM_cons];simp only[Sem.run_bind];rw[k];simp only[Result.andThen_ok,Sem.run_bind];rw[m]
     rfl
    ·grind
   ·grind
  ·grind
theorem Hc {fn:Func}(m:St w0 A g S w) (o:cA g w n α a) (h:CX P fn.results α S=some b):∃x,(results fn a.tmps).run P w=.ok x w/\aN g w b x:=by
 have e:∀{l:List AV}{d:List Value},d.length=l.length->(∀(i:Nat) (b:AV) (x:Value),l[i]?=some b->d[i]?=some x->aN g w b x)->(d.toArray.size=1->∃a,l=[a])/\aN g w (.aL l) (.tuple d.toArray):=by
  intro l d c j;refine⟨λf=>?_,.aL (by grind) (λi b x p s=>j i b x p (by grind))⟩
  match l,c with
  |[a],_=>exact⟨a,rfl⟩
  |[],c=>simp only[bA_,c,aN_]at f;cases f
  |_::_::_,c=>simp only[bA_,c,aw_]at f;omega
 unfold CX at h;split at h
 ·rename_i a0 k;obtain rfl:=oJ_ h;obtain⟨d,c,j,f⟩:=Br m o k;clear e
  match d,j,c,f with
  |[x],_,c,f =>
   refine⟨x,?_,f 0 _ x rfl rfl⟩;simp only[HM,dq_,Sem.run_bind,Sem.run_map];rw[c]
   rfl
 ·rename_i l t k;obtain rfl:=oJ_ h;obtain⟨d,c,j,f⟩:=Br m o k;obtain⟨u,q⟩:=e j f;refine⟨_,?_,q⟩;have r:¬ d.toArray.size=1:=λh=>by grind
  simp only[HM,dq_,Sem.run_bind,Sem.run_map];rw[c];simp only[Result.andThen_ok,dif_neg r]
  rfl
 ·grind
end
end Go.Proofs.YtbpabjmnhggajaaGreat
