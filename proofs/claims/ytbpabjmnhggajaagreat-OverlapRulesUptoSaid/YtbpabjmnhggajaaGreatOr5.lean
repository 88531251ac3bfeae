import Derived.Orders
import Derived.Test.YtbpabjmnhggajaaGreatOr4
namespace Go.Proofs.YtbpabjmnhggajaaGreat
set_option linter.all false
open Go.RowKit
variable {α1:AA}{a:AV}{K:AV->af->Prop}{f:FuncId}{g:Gh}{args:List AV}{ts:List Tmp}{i:Nat}{A:Nat->Prop}{d:Option Tmp}{t:Tmp}{w:World}{S1:af}
section
variable {P:Program}{w0:World}{rd:Bool}{n:Nat}{α:AA}{S S':af}{r:AV}
def nI (args:List AV) (t:Nat):AV:=(args[t]?).getD .u
theorem AT {args':Array Value}(h:mj g w args args') (e:args.length<=n):cA g w n ⟨nI args,[]⟩ { tmps:=args'++Array.replicate (n - args'.size) undef,defers:=[] }:=by
 refine⟨by simp[h.1];omega,λt d=>?_,λt d=>?_,rfl,λk f=>by grind⟩
 ·show aN g w (nI args t) _;unfold nI;by_cases c:t < args.length
  ·have b:=ai_ c;have a:t < args'.size:=by rw[h.1];exact c
   rw[b,aT_,ca_ a,aG_ a];exact h.2 t _ _ b (aG_ a)
  ·rw[cY_ (by omega)];exact .u
 ·grind[nI]
theorem St.take {k:Nat}(f:St w0 A g S w) (m:S.get k=some .df) (n:g.al k) :
  ∃w',(Instr.takeDeferred (g.ob k)).run P w=.ok [] w'/\Ext A g w g w'/\St w0 A g (S.set k none) w':=by
 obtain⟨H,k3,k4⟩:=f.cT k _ m n;have k4:w.heap[g.ob k]?=some (.deferred (some [])):=k4;obtain⟨w',t⟩:∃w':World,w'={ w with heap:=w.heap.setIfInBounds (g.ob k) (.deferred none) }:=⟨_,rfl⟩;have u:(Instr.takeDeferred (g.ob k)).run P w=.ok [] w':=by
  rw[t];simp[Instr.takeDeferred,getObj,setObj,Sem.run,k4]
 have v:w'.heap.size=w.heap.size:=by grind
 have l:∀b,b ≠ g.ob k->w'.heap[b]?=w.heap[b]?:=by grind
 have x:∀b q,w'.cell? ⟨b,q,none⟩=w.cell? ⟨b,q,none⟩:=by
  intro b q;by_cases e:b=g.ob k
  ·subst e;have y:w'.heap[g.ob k]?=some (.deferred none):=by grind
   simp[World.cell?,y,k4]
  ·exact World.cell?_of_block (l b e)
 have o:Later g w g w':=⟨λ_ h=>h,λ_ _=>rfl,λ_ _=>rfl,λ_ _ h=>h,λb q _=>x b q⟩;have r:Ext A g w g w':={ o with size:=by grind,aM:=λb K z=>l b (λe=>z (by grind)),kr:=λ_ _ h=>.inl h };have key:∀j p,(S.set k none).get j=some p->j ≠ k/\S.get j=some p:=by
  intro j p a;have a:bE S.get k none j=some p:=a;by_cases e:j=k
  ·grind[aJ]
  ·grind[aO]
 refine⟨w',u,r,f.next r (by grind) (by grind) (by grind) f.al (λj p a d=>?_) (λi j p q B a C d e=>f.inj i j p q (key i p B).2 (key j q a).2 C d e) (λb q D=>by rw[v];exact f.dw b q D) rfl (λj J a d=>⟨(key j _ a).2,d⟩) (λj p a d=>.inr ⟨j,p,d,(key j p a).2,rfl,.inl rfl⟩)⟩;obtain⟨s,a⟩:=key j p a;obtain⟨E,M,F⟩:=f.cT j p a d;exact⟨E,by grind,F.later o (l _ (λe=>s (f.inj j k p _ a m d n e))) (λ_ h=>h) λJ N=>⟨rfl,by grind,λc O=>l c λe=>f.nb j J k _ (by grind) d m n (λG=>s G.symm) (by grind),λ_ _ _ h=>h⟩⟩
theorem Ku {F:Fence}{m:Nat}{A:Nat->Prop}{fn:Func}{tmps:Array Value}{R:Ending->World->Prop}:∀(ks:List DE) {S:af}{g:Gh}{w:World},St w0 A g S w->I5 S ks=true->(∀d ∈ ks,g.al d.k) ->
  (∀w',St w0 A g (m_ S ks) w'->Ext A g w g w'->∃v,(results fn tmps).run P w'=.ok v w'/\R (.returned v) w')->LeavesInM F m P fn tmps R (ks.map (L_ g.ob)) .returning w
 |[],S,g,w,b,_,_,h=>h w b (Ext.refl ..)
 |.del _ _ _::ks,S,g,w,b,a,c,h=>by cases a
 |.ob k::ks,S,g,w,b,a,c,h=>by
  simp only[I5]at a;split at a
  ·rename_i e;obtain⟨w',f,i,l⟩:=b.take (P:=P) e (c (.ob k) (by simp));exact⟨by simp,.inl ⟨g.ob k,w',rfl,f,Ku ks l a (λj q=>c j (by grind)) λn o p=>h n o (i.trans p)⟩⟩
  ·grind
theorem aG.of_wp {fn:Func}{c:Code}{R:AV->af->Prop}(x:P.funcs[f]?=some fn) (y:fn.body=some c) (z:∀(xs:Array Value) (w:World),(callFunc f xs).run P w=.ok (.enter f xs) w)
  (B:fn.ntmps=n) (C:args.length<=n) (h:∃ex a S',dN P w0 false n c ⟨nI args,[]⟩ S ex a S'/\NJ P fn.results R ex a S'):∃r S',aG P w0 f args S r S'/\R r S':=by
 obtain⟨ex,a,S1,D,o⟩:=h;have E:I5 S1 a.df=true/\∃r,CX P fn.results a (m_ S1 a.df)=some r/\R r (m_ S1 a.df)/\(ex=.normal\/ex=.ret):=by
  unfold NJ at o;split at o
  ·grind
  ·grind
  ·grind
 obtain⟨j,r,G,H,k⟩:=E;refine⟨r,m_ S1 a.df,⟨z,λF m A g i w p I J=>?_⟩,H⟩;have key:CallsIn F.plain m P f i w λe b=>∃v d,e=.returned v/\aN d b r v/\St w0 A d (m_ S1 a.df) b/\Ext A g w d b:=by
  refine callsIn_of_wp_marks x y (p.1 f) ?_ rfl;rw[B];refine wpIn_mono (D F.plain m A g _ w p.plain rfl I (AT J C)) ?_;rintro K q b ⟨rfl,d,L,l,M⟩;have s:LeavesInM F.plain m P fn q.tmps (λe b=>∃v d,e=.returned v/\aN d b r v/\St w0 A d (m_ S1 a.df) b/\Ext A g w d b) q.defers .returning b:=by
   rw[l.df];refine Ku a.df L j l.wK λQ t u=>?_;obtain⟨v,N,O⟩:=Hc t (l.later u.toLater) G;exact⟨v,N,v,d,rfl,O,t,M.trans u⟩
  rcases k with rfl|rfl
  ·exact s
  ·exact s
 exact key
inductive aP (S:af):AV->AV->Prop where
 |refl (a:AV):aP S a a
 |agg {l l':List AV}(hl:l.length=l'.length) (h:∀(i:Nat) (a a':AV),l[i]?=some a->l'[i]?=some a'->aP S a a'):aP S (.agg l) (.agg l')
 |aL {l l':List AV}(hl:l.length=l'.length) (h:∀(i:Nat) (a a':AV),l[i]?=some a->l'[i]?=some a'->aP S a a'):aP S (.aL l) (.aL l')
 |ob {k sz off len:Nat}{cx:Option Nat}{rows en:List (List AV)}{fz:Nat}{ex:Bool}(hk:S.get k=some (.arr sz rows fz ex)) (hlen:off+len<=rows.length) (hl:en.length=len)
   (h1:∀(i:Nat) (row bI:List AV),rows[off+i]?=some row->en[i]?=some bI->row.length=bI.length)
   (h:∀(i j:Nat) (row bI:List AV) (a a':AV),rows[off+i]?=some row->en[i]?=some bI->row[j]?=some a->bI[j]?=some a'->aP S a a'):aP S (.ob k sz off len cx) (.sl false en)
 |pt {k sz i j:Nat}{rows:List (List AV)}{row bI:List AV}{fz:Nat}{ex:Bool}(hk:S.get k=some (.arr sz rows fz ex)) (hi:rows[i]?=some row) (hl:bI.length+j<=row.length)
   (h:∀(q:Nat) (a a':AV),row[j+q]?=some a->bI[q]?=some a'->aP S a a'):aP S (.pt k sz i j) (.ip bI)
 |fn {f:Fn}{l l' m m':List AV}(hl:l.length=l'.length) (hm:m.length=m'.length) (h1:∀(i:Nat) (a a':AV),l[i]?=some a->l'[i]?=some a'->aP S a a') (h2:∀(i:Nat) (a a':AV),m[i]?=some a->m'[i]?=some a'->aP S a a'):aP S (.fn f l m) (.fn f l' m')
 |sl {ex:Bool}{rows en:List (List AV)}(hl:rows.length=en.length) (h1:∀(i:Nat) (row bI:List AV),rows[i]?=some row->en[i]?=some bI->row.length=bI.length)
   (h:∀(i j:Nat) (row bI:List AV) (a a':AV),rows[i]?=some row->en[i]?=some bI->row[j]?=some a->bI[j]?=some a'->aP S a a'):aP S (.sl ex rows) (.sl false en)
 |ip {cs cs':List AV}(hl:cs'.length<=cs.length) (h:∀(j:Nat) (a a':AV),cs[j]?=some a->cs'[j]?=some a'->aP S a a'):aP S (.ip cs) (.ip cs')
 |gr {k sz len:Nat}{rows en:List (List AV)}{fz:Nat}{ex:Bool}(hk:S.get k=some (.arr sz rows fz ex)) (hlen:len<=rows.length) (hl:en.length=len)
   (h1:∀(i:Nat) (row bI:List AV),rows[i]?=some row->en[i]?=some bI->row.length=bI.length)
   (h:∀(i j:Nat) (row bI:List AV) (a a':AV),rows[i]?=some row->en[i]?=some bI->row[j]?=some a->bI[j]?=some a'->aP S a a'):aP S (.gr k sz len) (.sl false en)
theorem r_ {k sz m:Nat}{v:Value}(h:aN g w (.gr k sz m) v):(m=0/\∃A,v=.slice A 0 0)\/(g.al k/\∃c,v=.slice (some ⟨g.ob k,0,none⟩) m c/\c=g.cp k/\m<=c):=by
 cases h with
 |kO=>exact .inl ⟨rfl,_,rfl⟩
 |gr b d a=>exact .inr ⟨b,_,rfl,d,a⟩
def Gh.still (g:Gh) (S:af):Gh:=⟨g.ob,g.cp,g.al,λb q=>g.fz b q\/∃k a rows fz c,S.get k=some (.arr a rows fz c)/\g.al k/\b=g.ob k/\q < rows.length*a,g.fo⟩
theorem aP.rep (Z:St w0 A g S w) {a':AV}(hf:aP S a a'):∀{v:Value},aN g w a v->aN (g.still S) w a' v:=by
 have hL:Later g w (g.still S) w:=⟨λ_ h=>h,λ_ _=>rfl,λ_ _=>rfl,λ_ _ h=>.inl h,λ_ _ _=>rfl⟩
 induction hf with
 |refl a=>exactλh=>h.later hL
 |@agg l l' z h C =>
  intro v u;obtain⟨B,rfl,K,T⟩:=IU u;refine .agg (K.trans z) (λi a' x y s=>?_);have d:i < l.length:=by grind
  exact C i _ a' (ai_ d) y (T i _ x (ai_ d) s)
 |@aL l l' z h C =>
  intro v u;cases u with
  |aL K T =>
   refine .aL (K.trans z) (λi a' x y s=>?_);have d:i < l.length:=by grind
   exact C i _ a' (ai_ d) y (T i _ x (ai_ d) s)
 |@ob k n off len cx rows E fz Q I hlen z K h C =>
  intro v u;obtain⟨c,rfl,J,_,_,_,F⟩:=nt u;obtain⟨k2,k3,B,R,L,U,V,W,M,p6,p7⟩:=Z.cT k _ I J;subst z;have D:∀(i:Nat) (r:List AV),E[i]?=some r->∃row,rows[off+i]?=some row/\row.length=n/\r.length=n:=by grind
  by_cases N:E=[]
  ·subst N;exact .nil (λh=>by grind)
  ·refine .sl (sz:=n) (val:=λi j=>B.getD ((off+i)*n+j) undef) N (λh=>by grind) F (λi r d=>(D i r d).choose_spec.2.2) (λi j r a' d O=>?_) (λi j r a' d O=>?_)
   ·obtain⟨row,t,X,Y⟩:=D i r d;have P:j < n:=by grind
    have G:=ai_ (show j < row.length by omega);obtain⟨x,s,H⟩:=(M _ _ t).2 j _ G;have e4:off*n+(i*n+j)=(off+i)*n+j:=by grind
    refine⟨.inr ⟨k,n,rows,fz,Q,I,J,rfl,?_⟩,?_⟩
    ·rw[e4];exact o3 (ar_.1 t).1 P
    ·rw[cell_of_row _ _ _ B R (0,0) L,e4,s];simp[aT_,s]
   ·obtain⟨row,t,X,Y⟩:=D i r d;have P:j < n:=by grind
    have G:=ai_ (show j < row.length by omega);obtain⟨x,s,H⟩:=(M _ _ t).2 j _ G;simp only[aT_,s,bz_];exact C i j row r _ a' t d G O H
 |@gr k n len rows E fz Q I hlen z K h C =>
  intro v u;subst z;rcases r_ u with ⟨h0,A',rfl⟩|⟨J,c,rfl,_,F⟩
  ·have:E=[]:=bt_.1 h0;subst this;exact .nil (λh=>by grind)
  ·obtain⟨k2,k3,B,R,L,U,V,W,M,p6,p7⟩:=Z.cT k _ I J;have D:∀(i:Nat) (r:List AV),E[i]?=some r->∃row,rows[i]?=some row/\row.length=n/\r.length=n:=by grind
   by_cases N:E=[]
   ·subst N;exact .nil (λh=>by grind)
   ·refine .sl (sz:=n) (val:=λi j=>B.getD (i*n+j) undef) N (λh=>by grind) F (λi r d=>(D i r d).choose_spec.2.2) (λi j r a' d O=>?_) (λi j r a' d O=>?_)
    ·obtain⟨row,t,X,Y⟩:=D i r d;have P:j < n:=by grind
     have G:=ai_ (show j < row.length by omega);obtain⟨x,s,H⟩:=(M _ _ t).2 j _ G;refine⟨.inr ⟨k,n,rows,fz,Q,I,J,rfl,?_⟩,?_⟩
     ·rw[aD_];exact o3 (ar_.1 t).1 P
     ·rw[aD_,cell_of_row w (g.ob k) _ B R (0,0) L,s];simp[aT_,s]
    ·obtain⟨row,t,X,Y⟩:=D i r d;have P:j < n:=by grind
     have G:=ai_ (show j < row.length by omega);obtain⟨x,s,H⟩:=(M _ _ t).2 j _ G;simp only[aT_,s,bz_];exact C i j row r _ a' t d G O H
 |@pt k n i j rows row r fz Q I d z h C =>
  intro v u;cases u with
  |pt J =>
   obtain⟨k2,k3,B,R,L,U,V,W,M,p6,p7⟩:=Z.cT k _ I J;obtain⟨q1,q2⟩:=M i row d;have e_:∀(q:Nat) (a':AV),r[q]?=some a'->∃x,B[i*n+(j+q)]?=some x/\aN (g.still S) w a' x:=by
    intro q a' y;have hq:=(ar_.1 y).1;have t:row[j+q]?=some (row[j+q]'(by omega)):=ai_ (by omega);obtain⟨x,s,H⟩:=q2 _ _ t;exact⟨x,s,C q _ a' t y H⟩
   have aw:i < rows.length:=(ar_.1 d).1;refine .ip (val:=λq=>B.getD (i*n+(j+q)) undef) (λq a' y=>?_) (λq a' y=>?_)
   ·obtain⟨x,s,_⟩:=e_ q a' y;have hq:=(ar_.1 y).1;refine⟨.inr ⟨k,n,rows,fz,Q,I,J,rfl,?_⟩,?_⟩
    ·rw[bx_];exact o3 aw (by omega)
    ·rw[cell_of_row _ _ _ B R (0,0) L,bx_,s];simp[aT_,s]
   ·obtain⟨x,s,H⟩:=e_ q a' y;simp only[aT_,s,bz_];exact H
 |@fn f l l' m m' z hm K T Uz Mq =>
  intro v u;cases u with
  |fn L U V W =>
   refine .fn (L.trans z) (U.trans hm) (λi a' x y s=>?_) (λi a' x y s=>?_)
   ·have d:i < l.length:=by grind
    exact Uz i _ a' (ai_ d) y (V i _ x (ai_ d) s)
   ·have d:i < m.length:=by grind
    exact Mq i _ a' (ai_ d) y (W i _ x (ai_ d) s)
 |@sl Q rows E z K h C =>
  intro v u;cases u with
  |nil hc =>
   have:E=[]:=bt_.1 (by grind);subst this;exact .nil (λh=>by grind)
  |@sl _ _ b o n c val N hc F hll p pr =>
   have D:∀(i:Nat) (r:List AV),E[i]?=some r->∃row,rows[i]?=some row/\row.length=n/\row.length=r.length:=by grind
   rw[z];refine .sl (sz:=n) (val:=val) (λe=>N (bt_.1 (by grind))) (λh=>by grind) (by grind) (λi r d=>?_) (λi j r a' d O=>?_) (λi j r a' d O=>?_)
   ·grind
   ·obtain⟨row,t,X,Y⟩:=D i r d;have P:j < row.length:=by grind
    obtain⟨q1,q2⟩:=p i j row _ t (ai_ P);exact⟨.inl q1,q2⟩
   ·grind
 |@ip B cs' z h C =>
  intro v u;cases u with
  |@ip _ b o val p pr =>
   have D:∀(i:Nat) (a':AV),cs'[i]?=some a'->∃a,B[i]?=some a:=λi a' d=>⟨_,ai_ (au_ (ar_.1 d).1 z)⟩;refine .ip (val:=val) (λi a' d=>?_) (λi a' d=>?_)
   ·obtain⟨a,ha⟩:=D i a' d;exact⟨.inl (p i a ha).1,(p i a ha).2⟩
   ·grind
theorem ah.of_wp {fn:Func}{c:Code}(K:P.funcs[f]?=some fn) (y:fn.body=some c) (L:∀(xs:Array Value) (w:World),(callFunc f xs).run P w=.ok (.enter f xs) w)
  (M:fn.ntmps=n) (N:args.length<=n) (D:Pure r) (h:∃ex E S',dN P w0 false n c ⟨nI args,[]⟩ af.none_ ex E S'/\NJ P fn.results (λG S=>aP S G r) ex E S'):ah P w0 f args r:=by
 obtain⟨G,S',H,O⟩:=aG.of_wp K y L M N h;refine⟨D,af.none_,H.1,λF m A g d w Q z R=>(H.2 F m A g d w Q z R).mono ?_⟩;rintro e T ⟨v,s,rfl,U,i,t⟩;have a:∀b q,(s.still S').fz b q->g.fz b q\/A b:=by
  rintro b q (l|⟨k,V,rows,fz,ex,a,B,rfl,l⟩)
  ·exact t.kr b q l
  ·exact .inr (i.cT k _ a B).1
 have W:=O.rep i U;obtain⟨x,u⟩:∃x:Gh,x=⟨g.ob,g.cp,λ_=>False,(s.still S').fz,g.fo⟩:=⟨_,rfl⟩;have X:∀k,¬ g.al k:=λk a=>absurd (z.al k a) (Nat.not_lt_zero k);have I:Later g w x T:=by
  rw[u];exact⟨λk a=>X k a,λ_ _=>rfl,λ_ _=>rfl,λb q l=>.inl (t.fz b q l),t.cell⟩
 refine⟨v,x,rfl,?_,?_,{ I with size:=t.size,aM:=t.aM,kr:=by rw[u];exact a }⟩
 ·rw[u];exact aN.pure (g:=s.still S') (g':=⟨g.ob,g.cp,λ_=>False,(s.still S').fz,g.fo⟩) (λ_ _ h=>h) (λ_ _ _=>rfl) W D
 ·have e0:∀k o,¬ af.none_.get k=some o:=λk o h=>by simp[af.none_]at h
  refine⟨i.base,i.up,i.lo,λk a=>?_,λk o a=>absurd a (e0 k o),λj k o p C=>absurd C (e0 j o),?_,λb q y=>I.fz b q (z.rp b q y),λk J a=>absurd a (e0 k _),λk J j o a=>absurd a (e0 k _),λj k J J' C=>absurd C (e0 j _)⟩
  ·rw[u]at a;exact a.elim
  ·rw[u];rintro b q (l|⟨k,V,rows,fz,ex,a,B,rfl,l⟩)
   ·exact i.dw b q l
   ·exact (i.cT k _ a B).2.1
theorem St.inner (d:St w0 A g S w) (fz:Nat->Nat->Prop) (h1:∀b q,g.fz b q->fz b q) (h2:∀b q,fz b q->b < w.heap.size):St w0 (λb=>w.heap.size<=b) ⟨g.ob,g.cp,λ_=>False,fz,g.fo⟩ af.none_ w :=
 have e0:∀k o,¬ af.none_.get k=some o:=λk o h=>by simp[af.none_]at h
 ⟨d.base,λb c=>c,λb c=>ay_ d.base.size c,λk a=>a.elim,λk o a=>absurd a (e0 k o),λj k o p e=>absurd e (e0 j o),h2,λb q c=>h1 b q (d.rp b q c),λk J a=>absurd a (e0 k _),λk J j o a=>absurd a (e0 k _),λj k J f e=>absurd e (e0 j _)⟩
theorem St.outer {f:Gh}{w':World}{fz:Nat->Nat->Prop}(a:St w0 A g S w) (h1:∀b q,g.fz b q->fz b q) (h2:∀b q,fz b q->b < w.heap.size) (n:St w0 (λb=>w.heap.size<=b) f S' w') (i:Ext (λb=>w.heap.size<=b) ⟨g.ob,g.cp,λ_=>False,fz,g.fo⟩ w f w') :
  Ext A g w ⟨g.ob,g.cp,g.al,λb q=>g.fz b q\/(w.heap.size<=b/\f.fz b q),g.fo⟩ w'/\St w0 A ⟨g.ob,g.cp,g.al,λb q=>g.fz b q\/(w.heap.size<=b/\f.fz b q),g.fo⟩ S w':=by
 have hold:∀b,b < w.heap.size->w'.heap[b]?=w.heap[b]?:=λb e=>i.aM b e (by omega);have p:Later g w ⟨g.ob,g.cp,g.al,λb q=>g.fz b q\/(w.heap.size<=b/\f.fz b q),g.fo⟩ w':=⟨λ_ h=>h,λ_ _=>rfl,λ_ _=>rfl,λ_ _ h=>.inl h,λb q d=>World.cell?_of_block (hold b (a.dw b q d))⟩;have r:Ext A g w ⟨g.ob,g.cp,g.al,λb q=>g.fz b q\/(w.heap.size<=b/\f.fz b q),g.fo⟩ w':={ p with size:=i.size,aM:=λb e _=>hold b e,kr:=λb q d=>d.elim .inl λh=>.inr (a.up b h.1) };refine⟨r,⟨n.base,λb e=>a.up b (ay_ i.size e),a.lo,a.al,λk o m j=>?_,a.inj,λb q d=>?_,λb q e=>.inl (a.rp b q e),λk J m j c l=>⟨(a.kP k J m j c l).1,au_ (a.kP k J m j c l).2 i.size⟩,a.nb,a.oW⟩⟩
 ·obtain⟨s,k3,k4⟩:=a.cT k o m j;exact⟨s,au_ k3 i.size,k4.later p (hold _ k3) (λq d=>d.elim id λh=>absurd h.1 (by grind)) λJ v=>⟨rfl,i.size,λc l=>hold c (a.kP k J (by grind) j c l).2,λc q l d=>d.elim id λh=>absurd h.1 (by have:=(a.kP k J (by grind) j c l).2;omega)⟩⟩
 ·rcases d with d|d
  ·grind
  ·exact n.dw b q d.2
inductive zd:AV->Prop where
 |v {x:Value}:zd (.v x)
 |aL {l:List AV}(h:∀a ∈ l,zd a):zd (.aL l)
 |agg {l:List AV}(h:∀a ∈ l,zd a):zd (.agg l)
theorem aN.aog {g':Gh}{w':World}(j:zd a):∀{x:Value},aN g w a x->aN g' w' a x:=by
 induction j with
 |v=>intro x h;cases h;exact .v
 |aL k c=>intro x h;cases h with|aL d e=>exact .aL d λi a y b f=>c _ (aa_ b) (e i a y b f)
 |agg k c=>intro x h;cases h with|agg d e=>exact .agg d λi a y b f=>c _ (aa_ b) (e i a y b f)
theorem ah.LH (h:ah P w0 f args r) (n:∀a ∈ args,Pure a) (S:af):aG P w0 f args S r S:=by
 obtain⟨o,S1,p,s⟩:=h;refine⟨p,λF m A g c w t d j=>(s F m _ _ c w t (d.inner g.fz (λ_ _ h=>h) d.dw) ⟨j.1,λi a x k u=>aN.pure (g:=g) (g':=⟨g.ob,g.cp,λ_=>False,g.fz,g.fo⟩) (λ_ _ h=>h) (λ_ _ _=>rfl) (j.2 i a x k u) (n a (aa_ k))⟩).mono ?_⟩;rintro e H ⟨v,y,rfl,z,B,l⟩;obtain⟨C,D⟩:=d.outer (λ_ _ h=>h) d.dw B l;refine⟨v,_,rfl,?_,D,C⟩;refine aN.pure (g:=y) (λb q E=>?_) (λ_ _ _=>rfl) z o;rcases l.kr b q E with h|h
 ·grind
 ·grind
theorem ah.W5 {j:List AV}(h:ah P w0 f args r) (t:∀a ∈ args,Pure a) (u:zd r) (S:af) (y:j.length=args.length) (z:∀(i:Nat) (a0 a:AV),j[i]?=some a0->args[i]?=some a->aP S a0 a):aG P w0 f j S r S:=by
 obtain⟨O,S1,B,C⟩:=h;refine⟨B,λF m A g c w D d l=>?_⟩;have n:∀b q,(g.still S).fz b q->b < w.heap.size:=by
  rintro b q (o|⟨k,Q,rows,fz,R,E,G,rfl,o⟩)
  ·exact d.dw b q o
  ·exact (d.cT k _ E G).2.1
 refine (C F m _ _ c w D (d.inner (g.still S).fz (λ_ _ h=>.inl h) n) ⟨l.1.trans y,λi a x p H=>?_⟩).mono ?_
 ·have I:i < j.length:=by grind
  have s:=ai_ I;exact aN.pure (g:=g.still S) (g':=⟨g.ob,g.cp,λ_=>False,(g.still S).fz,g.fo⟩) (λ_ _ h=>h) (λ_ _ _=>rfl) ((z i _ a s p).rep d (l.2 i _ x s H)) (t a (aa_ p))
 ·rintro e U ⟨v,V,rfl,J,K,L⟩;obtain⟨M,N⟩:=d.outer (λ_ _ h=>.inl h) n K L;exact⟨v,_,rfl,J.aog u,N,M⟩
end
section
variable {P:Program}{w0:World}{n:Nat}{o:Oper}{α β:AA}{S S':af}{r:AV}
theorem vE {a b:Type}{l:Array a}{f g:a->b}(h:∀x ∈ l,f x=g x):l.toList.map f=l.toList.map g:=aF_ λx c=>h x (by grind)
theorem VV {op:Op}(h:∀x ∈ op.operands,α.ev x=β.ev x) (H:bu P w0 op α S K):bu P w0 op β S K:=by
 cases op with
 |move x=>simp only[bu,bC]at H ⊢;rw[<-h x (by simp[Op.operands])];exact H
 |assign x=>simp only[bu,bC]at H ⊢;rw[<-h x (by simp[Op.operands])];exact H
 |pick c a b=>simp only[bu,bC]at H ⊢;rw[<-h c (by simp[Op.operands]),<-h a (by simp[Op.operands]),<-h b (by simp[Op.operands])];exact H
 |alloc e=>exact H
 |box e x=>simp only[bu,bC]at H ⊢;rw[<-h x (by simp[Op.operands])];exact H
 |build t parts =>
  simp only[bu,bC]at H ⊢;have e:(parts.toList.map λ(i,x)=>(i,α.ev x))=parts.toList.map λ(i,x)=>(i,β.ev x):=aF_ λp j=>by
   have:=h p.2 (by simp only[Op.operands,List.mem_toArray,av_];exact⟨p,j,rfl⟩);show (p.1,α.ev p.2)=(p.1,β.ev p.2);rw[this]
  rw[<-e];exact H
 |buildSlice t len parts =>
  simp only[bu,bC]at H ⊢;have e:(parts.toList.map λ(i,x)=>(i,α.ev x))=parts.toList.map λ(i,x)=>(i,β.ev x):=aF_ λp j=>by
   have:=h p.2 (by simp only[Op.operands,List.mem_toArray,av_];exact⟨p,j,rfl⟩);show (p.1,α.ev p.2)=(p.1,β.ev p.2);rw[this]
  rw[<-e];exact H
 |load t x=>simp only[bu,bC]at H ⊢;rw[<-h x (by simp[Op.operands])];exact H
 |store t x b=>simp only[bu,bC]at H ⊢;rw[<-h x (by simp[Op.operands]),<-h b (by simp[Op.operands])];exact H
 |binOp op t x y u=>simp only[bu,bC]at H ⊢;rw[<-h x (by simp[Op.operands]),<-h y (by simp[Op.operands])];exact H
 |unOp op t x=>simp only[bu,bC]at H ⊢;rw[<-h x (by simp[Op.operands])];exact H
 |convert src o x=>simp only[bu,bC]at H ⊢;rw[<-h x (by simp[Op.operands])];exact H
 |fieldAddr s x f=>simp only[bu,bC]at H ⊢;rw[<-h x (by simp[Op.operands])];exact H
 |field t x f=>simp only[bu,bC]at H ⊢;rw[<-h x (by simp[Op.operands])];exact H
 |indexAddr t x i=>simp only[bu,bC]at H ⊢;rw[<-h x (by simp[Op.operands]),<-h i (by simp[Op.operands])];exact H
 |index t x i=>simp only[bu,bC]at H ⊢;rw[<-h x (by simp[Op.operands]),<-h i (by simp[Op.operands])];exact H
 |slice t x k m n =>
  simp only[bu,bC]at H ⊢;have e:∀z:Option Operand,(∀y ∈ z,y ∈ (Op.slice t x k m n).operands)->z.map α.ev=z.map β.ev:=by
   intro z q;cases z with
   |none=>rfl
   |some y=>simp only[aE_];rw[h y (q y rfl)]
  rw[<-h x (by simp[Op.operands]),<-e k (λy d=>by simp[Op.operands];simp at d;simp[d]),<-e m (λy d=>by simp[Op.operands];simp at d;simp[d]),<-e n (λy d=>by simp[Op.operands];simp at d;simp[d])];exact H
 |extract x i=>simp only[bu,bC]at H ⊢;rw[<-h x (by simp[Op.operands])];exact H
 |makeFunc f first cap =>
  simp only[bu,bC]at H ⊢;rw[<-vE (l:=first) λx g=>h x (by simp[Op.operands,g]),<-vE (l:=cap) λx g=>h x (by simp[Op.operands,g])];exact H
 |nilCheck x=>simp only[bu,bC]at H ⊢;rw[<-h x (by simp[Op.operands])];exact H
 |makeSlice t l c=>simp only[bu,bC]at H ⊢;rw[<-h l (by simp[Op.operands]),<-h c (by simp[Op.operands])];exact H
 |range t x=>simp only[bu,bC]at H ⊢;rw[<-h x (by simp[Op.operands])];exact H
 |next x b=>simp only[bu,bC]at H ⊢;rw[<-h x (by simp[Op.operands])];exact H
 |call c =>
  have e:c.args.toList.map α.ev=c.args.toList.map β.ev:=vE λx g=>h x (by simp[Op.operands,Call.operands,g]);simp only[bu,bC]at H ⊢;split at H
  ·rename_i f r;rw[<-e,<-h f (by simp[Op.operands,Call.operands,r])];exact H
  ·grind
  ·grind
 |_=>exact H.elim
def oQ:Op->Bool
 |.move _|.assign _|.pick ..|.build ..|.buildSlice ..|.binOp ..|.unOp ..|.convert ..|.fieldAddr ..|.field ..|.indexAddr ..|.index ..|.slice ..|.extract ..|.makeFunc ..|.nilCheck _=>true
 |.call c=>match c.callee with|.builtin .len|.builtin .min|.builtin .max=>true|_=>false
 |_=>false
def Dk:Op->Bool
 |.load ..=>false
 |.call c=>match c.callee with|.value _=>false|.builtin .len|.builtin .min|.builtin .max=>false|_=>true
 |o=>!oQ o
theorem agM {t:Bool}{X Y:Prop}(h:br t X Y):(t=true/\X)\/(t=false/\Y):=by cases t;exact .inr ⟨rfl,h⟩;exact .inl ⟨rfl,h⟩
def wJ (r:AV) (S:af) (a:AV) (S':af):Prop:=a=r/\S'=S
theorem aaZ {op:Op}(k:oQ op=true) (h:bu P w0 op α S K):∃r,K r S/\∀S',bu P w0 op α S' (wJ r S'):=by
 cases op with
 |move x=>exact⟨_,h,λS'=>⟨rfl,rfl⟩⟩
 |assign x=>exact⟨_,h,λS'=>⟨rfl,rfl⟩⟩
 |pick c a b =>
  simp only[bu,bC]at h ⊢;split at h
  ·rcases agM h with ⟨rfl,h⟩|⟨rfl,h⟩
   ·exact⟨_,h,λS'=>⟨rfl,rfl⟩⟩
   ·exact⟨_,h,λS'=>⟨rfl,rfl⟩⟩
  ·grind
 |build t parts =>
  simp only[bu,bC]at h ⊢;split at h
  ·exact⟨_,h,λS'=>⟨rfl,rfl⟩⟩
  ·grind
 |buildSlice t len parts =>
  simp only[bu,bC]at h ⊢;split at h
  ·split at h
   ·split at h
    ·split at h
     ·exact⟨_,h,λS'=>⟨rfl,rfl⟩⟩
     ·grind
    ·grind
   ·grind
  ·grind
 |binOp op t x y B =>
  simp only[bu,bC]at h ⊢;split at h
  ·split at h
   ·split at h
    ·obtain⟨d,g,j⟩:=h;exact⟨_,j,λS'=>⟨d,g,⟨rfl,rfl⟩⟩⟩
    ·grind
   ·split at h
    ·exact⟨_,h.out,λS'=>w6.mk ⟨rfl,rfl⟩⟩
    ·grind
  ·split at h
   ·exact⟨_,h.2,λS'=>⟨h.1,⟨rfl,rfl⟩⟩⟩
   ·split at h
    ·exact⟨_,h.out,λS'=>w6.mk ⟨rfl,rfl⟩⟩
    ·grind
  ·split at h
   ·exact⟨_,h.out,λS'=>w6.mk ⟨rfl,rfl⟩⟩
   ·grind
  ·grind
 |unOp op t x =>
  simp only[bu,bC]at h ⊢;split at h
  ·exact⟨_,h,λS'=>⟨rfl,rfl⟩⟩
  ·obtain⟨d,g,j⟩:=h;exact⟨_,j,λS'=>⟨d,g,⟨rfl,rfl⟩⟩⟩
  ·grind
 |convert src u x =>
  simp only[bu,bC]at h ⊢;split at h
  ·obtain⟨d,g,j⟩:=h;exact⟨_,j,λS'=>⟨d,g,⟨rfl,rfl⟩⟩⟩
  ·exact⟨_,h,λS'=>⟨rfl,rfl⟩⟩
  ·grind
 |fieldAddr s x f =>
  simp only[bu,bC]at h ⊢;split at h
  ·split at h
   ·split at h
    ·split at h
     ·exact⟨_,h,λS'=>⟨rfl,rfl⟩⟩
     ·exact⟨_,h,λS'=>⟨rfl,rfl⟩⟩
     ·grind
    ·grind
   ·grind
  ·grind
 |field t x f =>
  simp only[bu,bC]at h ⊢;split at h
  ·split at h
   ·split at h
    ·split at h
     ·exact⟨_,h,λS'=>⟨rfl,rfl⟩⟩
     ·grind
    ·grind
   ·grind
  ·grind
 |indexAddr t x i =>
  simp only[bu,bC]at h ⊢;split at h
  ·split at h
   ·split at h
    ·exact⟨_,h.2,λS'=>⟨h.1,⟨rfl,rfl⟩⟩⟩
    ·grind
   ·grind
  ·exact⟨_,h.2.2.2,λS'=>⟨h.1,h.2.1,h.2.2.1,⟨rfl,rfl⟩⟩⟩
  ·split at h
   ·exact⟨_,h.2.2,λS'=>⟨h.1,h.2.1,⟨rfl,rfl⟩⟩⟩
   ·grind
  ·split at h
   ·exact⟨_,h.2.2,λS'=>⟨h.1,h.2.1,⟨rfl,rfl⟩⟩⟩
   ·grind
  ·grind
 |index t x i =>
  simp only[bu,bC]at h ⊢;split at h
  ·split at h
   ·exact⟨_,h,λS'=>⟨rfl,rfl⟩⟩
   ·grind
  ·split at h
   ·split at h
    ·exact⟨_,h.2.2,λS'=>⟨h.1,h.2.1,⟨rfl,rfl⟩⟩⟩
    ·grind
   ·grind
  ·grind
 |slice t x C D E =>
  simp only[bu,r7]at h ⊢;split at h
  ·split at h
   ·exact⟨_,h.2.2.2,λS'=>⟨h.1,h.2.1,h.2.2.1,⟨rfl,rfl⟩⟩⟩
   ·grind
  ·split at h
   ·exact⟨_,h.2.2.2.2.2,λS'=>⟨h.1,h.2.1,h.2.2.1,h.2.2.2.1,h.2.2.2.2.1,⟨rfl,rfl⟩⟩⟩
   ·grind
  ·split at h
   ·exact⟨_,h.2.2.2.2.2.2,λS'=>⟨h.1,h.2.1,h.2.2.1,h.2.2.2.1,h.2.2.2.2.1,h.2.2.2.2.2.1,⟨rfl,rfl⟩⟩⟩
   ·grind
  ·split at h
   ·exact⟨_,h.2.2.2,λS'=>⟨h.1,h.2.1,h.2.2.1,⟨rfl,rfl⟩⟩⟩
   ·rename_i e F l v G H I;obtain⟨m,n,o,p,w,z⟩:=h;by_cases c:l=v
    ·exact⟨_,w c,λS'=>⟨m,n,o,p,λ_=>⟨rfl,rfl⟩,λq=>absurd c (by omega)⟩⟩
    ·exact⟨_,z (by omega),λS'=>⟨m,n,o,p,λq=>absurd q c,λ_=>⟨rfl,rfl⟩⟩⟩
   ·grind
  ·split at h
   ·exact⟨_,h.2.2.2.2.2,λS'=>⟨h.1,h.2.1,h.2.2.1,h.2.2.2.1,h.2.2.2.2.1,⟨rfl,rfl⟩⟩⟩
   ·grind
  ·grind
 |extract x i =>
  simp only[bu,bC]at h ⊢;split at h
  ·split at h
   ·exact⟨_,h,λS'=>⟨rfl,rfl⟩⟩
   ·grind
  ·grind
 |makeFunc f first cap=>exact⟨_,h,λS'=>⟨rfl,rfl⟩⟩
 |nilCheck x =>
  simp only[bu,bC]at h ⊢;split at h
  ·exact⟨_,h,λS'=>⟨rfl,rfl⟩⟩
  ·exact⟨_,h,λS'=>⟨rfl,rfl⟩⟩
  ·grind
 |call c =>
  simp only[oQ]at k;simp only[bu,bC]at h ⊢;split at h
  ·grind
  ·rename_i b A;rw[A]at k;simp only[oY,bC]at h ⊢;split at h
   ·split at h
    ·split at h
     ·exact⟨_,h,λS'=>⟨rfl,rfl⟩⟩
     ·grind
    ·grind
   ·grind
   ·split at h
    ·split at h
     ·exact⟨_,h,λS'=>⟨rfl,rfl⟩⟩
     ·grind
    ·grind
   ·split at h
    ·split at h
     ·exact⟨_,h,λS'=>⟨rfl,rfl⟩⟩
     ·grind
    ·grind
   ·grind
  ·grind
 |_=>cases k
def AA.only (α:AA) (ts:List Tmp):AA:=⟨λt=>if ts.contains t then α.tm t else .u,α.df⟩
theorem gm {x:Operand}(h:∀t,x=.tmp t->t ∈ ts):(α.only ts).ev x=α.ev x:=by
 cases x with
 |tmp t =>
  show (if ts.contains t then α.tm t else .u)=α.tm t;rw[if_pos (by grind)]
 |_=>rfl
theorem cA.only {a:Act}(h:cA g w n α a) (ts:List Tmp):cA g w n (α.only ts) a:=by
 refine⟨h.size,λt b=>?_,λt b=>?_,h.df,h.wK⟩
 ·show aN g w (if ts.contains t then α.tm t else .u) _;split
  ·exact h.tm t b
  ·exact .u
 ·show (if ts.contains t then α.tm t else .u)=.u;rw[h.out t b];split<;>rfl
end
section
variable {P:Program}{w0:World}{n:Nat}{o:Oper}{α β:AA}{S S':af}{r:AV}{ops:Array Oper}
def dH (o:Oper):List Tmp:=o.op.operands.toList.filterMap λ|.tmp t=>some t|_=>none
theorem gw (h:Operand.tmp t ∈ o.op.operands):t ∈ dH o:=by
 unfold dH;rw[List.mem_filterMap];exact⟨.tmp t,by grind,rfl⟩
theorem yW (h:t ∈ dH o):t ∈ o.looksAt ops:=az_.2 (.inl h)
def GS (P:Program) (w0:World) (n:Nat) (ops:Array Oper) (i:Nat) (α:AA) (S:af) (α1:AA) (S1:af):Prop :=
 ∃o,ops[i]?=some o/\(match o.dst with|some d=>Nat.blt d n|none=>true)=true /\
  ((∃(j:Nat) (want:Bool) (b:Option Bool),o.guard=some (j,want)/\uG ops α j=some b/\b ≠ some want/\α1=α.put o.dst (.v undef)/\S1=S) \/
   ((o.guard=none\/∃j want,o.guard=some (j,want)/\uG ops α j=some (some want))/\∃r,α1=α.put o.dst r/\iY P w0 n o (α.only (dH o)) S r S1 /\
      (oQ o.op=true->S1=S/\∀S,iY P w0 n o (α.only (dH o)) S r S)/\(Dk o.op=false->S1=S)))
theorem VW (h:∀e,d=some e->t ≠ e):(α.put d a).tm t=α.tm t:=by
 cases d with
 |none=>rfl
 |some e=>exact aO _ _ (h e rfl)
theorem agN:(α.put d a).df=α.df:=by cases d<;>rfl
theorem BB (h:∀e,d=some e->e ∉ ts):(α.put d a).only ts=α.only ts:=by grind[AA.only,agN,VW]
theorem vc {j:Nat}(h:∀e,d=some e->(ops[j]?).bind (·.dst) ≠ some e):uG ops (α.put d a) j=uG ops α j:=by grind[uG,VW]
theorem put_comm {e:Option Tmp}{b:AV}(h:∀t,d=some t->e ≠ some t):(α.put d a).put e b=(α.put e b).put d a:=by
 cases d with
 |none=>rfl
 |some d =>
  cases e with
  |none=>rfl
  |some e =>
   have c:e ≠ d:=λf=>h d rfl (by grind);show (⟨bE (bE α.tm d a) e b,α.df⟩:AA)=⟨bE (bE α.tm e b) d a,α.df⟩;congr 1;funext t;by_cases g:t=e
   ·grind[aJ,aO]
   ·grind[aO,aJ]
def Tl (x y:Oper):Bool:=oQ x.op || oQ y.op || (!Dk x.op && !Dk y.op)
theorem GS.frame (h:GS P w0 n ops i α S α1 S1) (f:∀o,ops[i]?=some o->∀e,d=some e->e ∉ o.looksAt ops/\o.dst ≠ some e):GS P w0 n ops i (α.put d a) S (α1.put d a) S1:=by
 obtain⟨o,c,m,h⟩:=h;have s:∀e,d=some e->e ∉ dH o:=λe g p=>(f o c e g).1 (yW p);have u:∀j want,o.guard=some (j,want)->∀e,d=some e->(ops[j]?).bind (·.dst) ≠ some e:=by
  intro j want k e g l;refine (f o c e g).1 (az_.2 (.inr ?_));rw[k];simp only;rw[l];simp
 have v:∀x,(α.put o.dst x).put d a=(α.put d a).put o.dst x:=λx=>(put_comm λt q e=>(f o c t q).2 e).symm;refine⟨o,c,m,?_⟩;rcases h with ⟨j,want,b,k,w,y,rfl,rfl⟩|⟨k,r,rfl,l,z,A⟩
 ·grind[vc]
 ·grind[BB,vc]
theorem GS.shape (h:GS P w0 n ops i α S α1 S1):∃o a,ops[i]?=some o/\α1=α.put o.dst a/\(Dk o.op=false->S1=S)/\(oQ o.op=true->S1=S):=by
 obtain⟨o,d,e,h⟩:=h;rcases h with ⟨j,want,b,c,f,g,rfl,rfl⟩|⟨c,r,rfl,k,l,m⟩
 ·grind
 ·grind
theorem GS.anyS {T:af}(h:GS P w0 n ops i α S α1 S1) (f:∀o,ops[i]?=some o->oQ o.op=true):GS P w0 n ops i α T α1 T:=by
 obtain⟨o,a,c,h⟩:=h;refine⟨o,a,c,?_⟩;rcases h with ⟨j,want,b,d,g,k,e,l⟩|⟨d,r,e,m,p,q⟩
 ·grind
 ·grind
theorem GS.swap {j:Nat}{p s:Oper}{D:AA}{v:af}(hi:ops[i]?=some p) (Z:ops[j]?=some s) (L:p.apart ops s=true) (E:Tl p s=true) (h:GS P w0 n ops i α S α1 S1) (k:GS P w0 n ops j α1 S1 D v) :
  ∃F G,GS P w0 n ops j α S F G/\GS P w0 n ops i F G D v:=by
 obtain⟨H,e2,e3⟩:=Oper.apart_spec L;obtain⟨f,a,mO,rfl,M,N⟩:=h.shape;obtain rfl:f=p:=by grind
 obtain⟨l,b,lX,rfl,O,w⟩:=k.shape;obtain rfl:l=s:=by grind
 have I:∀T g,GS P w0 n ops j (α.put f.dst a) T ((α.put f.dst a).put l.dst b) g->GS P w0 n ops j α T (α.put l.dst b) g:=by
  intro T g A;obtain⟨o,t,Q,A⟩:=A;obtain rfl:o=l:=by grind
  have h1:∀e,f.dst=some e->e ∉ dH o:=λe u R=>H e u (yW R);have h2:∀q want,o.guard=some (q,want)->∀e,f.dst=some e->(ops[q]?).bind (·.dst) ≠ some e:=by
   intro q want B e u m;refine H e u (az_.2 (.inr ?_));rw[B];simp only;rw[m];simp
  have inj:∀x y:AV,(α.put f.dst a).put o.dst x=(α.put f.dst a).put o.dst y->α.put o.dst x=α.put o.dst y:=by
   intro x y J;cases U:o.dst with
   |none=>rfl
   |some d =>
    rw[U]at J;have:x=y:=by
     have m:=congrArg (λz:AA=>z.tm d) J;simpa[AA.put,aJ] using m
    rw[this]
  refine⟨o,t,Q,?_⟩;rcases A with ⟨q,want,c,B,hy,dm,m,V⟩|⟨B,r,m,V,h5,h6⟩
  ·grind[vc]
  ·grind[BB,vc]
 have K:∀T g,GS P w0 n ops i α T (α.put f.dst a) g->GS P w0 n ops i (α.put l.dst b) T ((α.put f.dst a).put l.dst b) g:=λT g W=>W.frame λo t e u=>by grind
 simp only[Tl,cd_,al_,bO_]at E;rcases E with (C|C)|⟨EI,TT⟩
 ·
  have X:=N C;subst X;exact⟨_,v,I _ _ k,K _ _ (h.anyS (λo t=>by grind))⟩
 ·have Y:=w C;subst Y;exact⟨_,S,I _ _ (k.anyS (T:=S) (λo t=>by grind)),K _ _ h⟩
 ·grind
inductive tI (P:Program) (w0:World) (n:Nat) (ops:Array Oper):List Nat->AA->af->AA->af->Prop where
 |nil (α:AA) (S:af):tI P w0 n ops [] α S α S
 |cons {i:Nat}{rest:List Nat}{α α1 aE:AA}{S S1 S':af}(h:GS P w0 n ops i α S α1 S1) (t:tI P w0 n ops rest α1 S1 aE S'):tI P w0 n ops (i::rest) α S aE S'
def xS (ops:Array Oper) (i j:Nat):Bool :=
 match ops[i]?,ops[j]? with
 |some a,some b=>a.apart ops b && Tl a b
 |_,_=>false
theorem tI.front {j:Nat}:∀{b c:List Nat}{α d:AA}{S S':af},(∀x ∈ b,xS ops x j=true)->tI P w0 n ops (b++j::c) α S d S'->tI P w0 n ops (j::(b++c)) α S d S'
 |[],c,α,d,S,S',_,h=>h
 |x::b,c,α,d,S,S',e,h=>by
  cases h with
  |@cons _ _ _ α1 _ _ S1 _ h t =>
   have f:=tI.front (λy o=>e y (by grind)) t;cases f with
   |@cons _ _ _ p _ _ q _ k t2 =>
    have a:=e x (by simp);unfold xS at a;split at a
    ·rename_i r s g i;simp only[al_]at a;obtain⟨u,v,l,m⟩:=h.swap g i a.1 a.2 k;exact .cons l (.cons m t2)
    ·grind
theorem tI.perm:∀{L C:List Nat}{α c:AA}{S S':af},C.Pairwise (· < ·)->L.Pairwise (λy x=>x < y->xS ops x y=true)->(∀x,x ∈ L ↔ x ∈ C)->L.Nodup->tI P w0 n ops C α S c S'->tI P w0 n ops L α S c S'
 |[],C,α,c,S,S',_,_,d,_,h=>by
  have:C=[]:=by
   cases C with
   |nil=>rfl
   |cons x C=>have:=(d x).2 (by simp);cases this
  subst this;exact h
 |y::L,C,α,c,S,S',g,e,d,i,h=>by
  obtain⟨j,k,rfl⟩:=List.append_of_mem ((d y).1 (by simp));rw[bP_]at e;rw[bu_]at i;rw[cz_,bP_]at g;obtain⟨o,⟨p,q⟩,l⟩:=g;have r:∀x ∈ j,x < y:=λx f=>l x f y (by simp);have w:∀x ∈ k,y < x:=p;have m:∀x,x ∈ L ↔ x ∈ j++k:=by grind
  have s:=tI.front (λx f=>e.1 x ((m x).2 (by grind)) (r x f)) h;cases s with
  |cons t u =>
   refine .cons t (tI.perm (L:=L) ?_ e.2 m i.2 u);rw[cz_];exact⟨o,q,λa v b z=>l a v b (by grind)⟩
theorem tI.OD:∀{L:List Nat}{α p:AA}{S S':af},tI P w0 n ops L α S p S'->zn P w0 n ops L α S p S'
 |[],_,_,_,_,.nil α S=>λF m A g a w Q d k c l=>l a w g k c (Ext.refl ..)
 |i::rest,α,p,S,S',.cons (α1:=α1) (S1:=S1) h t=>by
  have u:=tI.OD t;obtain⟨o,x,y,h⟩:=h;rcases h with ⟨j,want,b,e,q,B,rfl,rfl⟩|⟨e,r,rfl,s,_,_⟩
  ·intro F m A g a w Q d k c l;have C:¬ Region.wanted o (yielded ops a.tmps)=true:=by simp[Region.wanted,e,xG c q,B]
   simp only[wpOpsIn,x];rw[if_neg C];exact⟨λf _=>d.1 f,u F m A g _ w Q d k (pU c y .v) l⟩
  ·intro F m A g a w Q d k c l;have D:Region.wanted o (yielded ops a.tmps)=true:=by
    rcases e with e|⟨j,want,e,q⟩
    ·simp[Region.wanted,e]
    ·simp[Region.wanted,e,xG c q]
   simp only[wpOpsIn,x];rw[if_pos D];refine⟨λf _=>d.1 f,s F m A g a w _ Q d k (c.only _) λv E G H I z=>?_⟩;exact u F m A G _ E Q d I (pU (c.later z.toLater) y H) λJ K M N O s=>l J K M N O (z.trans s)
end
end Go.Proofs.YtbpabjmnhggajaaGreat
