import Derived.Laws.CopyRow
import Derived.Test.YtbpabjmnhggajaaGreatOr26
import Derived.Test.YtbpabjmnhggajaaGreatOr28
namespace Go.Proofs.YtbpabjmnhggajaaGreat
set_option linter.all false
set_option maxRecDepth 100000
open Go.RowKit
variable {E e:Int}{more rows:List (List AV)}{args:List AV}{cl:List Nat}{jP:List QO}{qs:List QR}{a l:List Tm}{by_ n sz:Nat}{c:Nat->Nat}{d:Option Nat}
section
attribute [local irreducible] ah aG ae ad
theorem Sl (x:Tm):(dO x).length<=cY x:=by
 refine Tm.ind (p:=λx=>(dO x).length<=cY x) ?_ x;intro k i n a b;have key:∀l:List Tm,(∀y ∈ l,(dO y).length<=cY y)->(aY l).length<=bw l:=by
  intro l
  induction l with
  |nil=>intro _;simp[aY,bw]
  |cons y l c =>
   intro h;rw[aY,bw,af_];have d:=h y (by simp);have e:=c λz f=>h z (by grind);omega
 have g:=key a b;rw[dO,cY];split
 ·grind
 ·grind
theorem uy:∀l:List Tm,(aY l).length<=bw l
 |[]=>by simp[aY,bw]
 |x::l=>by
  rw[aY,bw,af_];have a:=Sl x;have b:=uy l;omega
theorem A_ (l:List Tm):(varsOf l).length<=bw l:=ay_ (mE _ _) (uy l)
section
variable {w0:World}{ρ:Hd}
def JP (x:Gl):Prop:=nC x.a/\x.n.size<=1099511627776
theorem Qr (h:nC a):(aY a).length<=1099511627776:=ay_ (uy a) h.2
theorem UK (h:nC a):(varsOf a).length<=1099511627776:=ay_ (A_ a) h.2
end
end
section
attribute [local irreducible] ah aG ae ad
end
section
attribute [local irreducible] ah aG ae ad
def Ba (w0:World) (f:FuncId) (args:List AV) (E:Int):Prop:=KW Tryz.prog w0 f args (decide (E=0)) (.aL []) (pR E)
section
variable {w0:World}{ρ:Hd}{rd:Bool}{n:Nat}{α:AA}{S S':af}{Q:Exit->AA->af->Prop}{l:List QI}{K:List f_}{r:AV}{ex:Exit}
theorem K1 {f:FuncId}{q:QC × List QR}(F:oc Tryz.prog f q n) (b:args.length<=n) (h:ad Tryz.prog w0 false n (CA q.2 (λc S=>decide (E=0)=true/\aP S c (.aL [])) (λd S=>decide (E=0)=false/\d=pR E)) (.run q.1 []) ⟨nI args,[]⟩ af.none_):Ba w0 f args E :=
 oc.ZO F b (.aL λa e=>by grind) h
theorem FR (a:KV ex=true) (h:Iv qs ex α S=some (.aL [],S')) (k:E=0):ad Tryz.prog w0 rd n (CA qs (λb S=>decide (E=0)=true/\aP S b (.aL [])) (λc S=>decide (E=0)=false/\c=pR E)) (.out ex []) α S :=
 ad.ad0 a h ⟨decide_eq_true k,.refl _⟩
theorem nM (a:α.df=[]) (d:decide (e=0)=false) (k:E=e):ad Tryz.prog w0 rd n (CA qs (λb S=>decide (E=0)=true/\aP S b (.aL [])) (λc S=>decide (E=0)=false/\c=pR E)) (.out (.panic (pR e)) []) α S :=
 ad.ad1 a ⟨by grind,by rw[k]⟩
theorem ad.qp {b:Bool}{gd:Option (Nat × Bool)}{f:QO}(c:bG α.tm gd=some true) (h:eV (f.ev α.tm) (jP.map (·.ev α.tm))=some (30,[.v (.bool b),.v (.int .i64 e)]))
  (g:b=true->ad Tryz.prog w0 rd n Q (.bc false l K) (bP d α (.aL [])) S) (i:b=false->ad Tryz.prog w0 rd n Q (.out (.panic (pR e)) K) α S):ad Tryz.prog w0 rd n Q (.bc false (⟨d,gd,.call f jP⟩::l) K) α S :=
 ad.ZP c h (aez b e) ⟨.v,.v,trivial⟩ (.aL λa j=>by grind) (iq.refl _ _) g i
theorem ad.qI {gd:Option (Nat × Bool)}{f:QO}{g:FuncId}(b:bG α.tm gd=some true) (h:eV (f.ev α.tm) (jP.map (·.ev α.tm))=some (g,args)) (c:Ba w0 g args E) (e:kc args)
  (i:E=0->ad Tryz.prog w0 rd n Q (.bc false l K) (bP d α (.aL [])) S) (j:¬ E=0->ad Tryz.prog w0 rd n Q (.out (.panic (pR E)) K) α S):ad Tryz.prog w0 rd n Q (.bc false (⟨d,gd,.call f jP⟩::l) K) α S :=
 ad.ZP b h c e (.aL λa k=>by grind) (iq.refl _ _) (λh=>i (of_decide_eq_true h)) (λh=>j (of_decide_eq_false h))
end
def amT:FQ 74 Tryz.f74:=aF Tryz.func74 Tryz.call74
def g74:List Nat:=[0,2]
def aiO:FQ 132 Tryz.f132:=aF Tryz.func132 Tryz.call132
def aeO:List Nat:=[3,0,2,1]
def amU:FQ 72 Tryz.f72:=aF Tryz.func72 Tryz.call72
def g72:List Nat:=[0,4,1,6,2]
def amV:FQ 73 Tryz.f73:=aF Tryz.func73 Tryz.call73
def BX:List Nat:=[8,5,1,7,9,6,14,0]
def nN (o:Int):Bool:=decide (5<=o) && decide (o<=12)
def named (n:ByteArray) (d:Dc):Bool:=d.n.toList == n.toList
def oS (ds:List Dc) (n:ByteArray) (a:Int):Int:=if ds.any (named n) then (if l_ ds n a then 0 else 9) else 7
def qI (ds:List Dc) (g:Gl):Int:=if g.op=0 then oS ds g.n g.a.length else 0
def bj (e k:Int):Int:=if e=0 then k else e
theorem bD {k:Int}(h:e=0):bj e k=k:=by rw[bj,if_pos h]
theorem dx {k:Int}(h:¬ e=0):bj e k=e:=by rw[bj,if_neg h]
def kG (ds:List Dc):List Gl->Int
 |[]=>0
 |g::l=>bj (qI ds g) (kG ds l)
section
variable {w0:World}{ρ:Hd}
theorem UL (o:Int):ah Tryz.prog w0 74 [iv o] (.v (.bool (nN o))):=by
 refine st amT g74 .v ?_
 repeat' (first
  |refine cg g74 (λa=>?_) λa=>?_
  |(refine fq ?_))
 all_goals (subst_vars;refine bY ?_;rw[nN,bI_];simp;omega)
theorem abS (d:Dc) (n:ByteArray):ah Tryz.prog w0 132 [dc d,.ip [.v (.string n)]] (.v (.bool (named n d))):=by
 obtain⟨dn,b⟩:=d;refine st aiO aeO .v ?_
 repeat' (first
  |refine cg aeO (λa=>?_) λa=>?_
  |(refine fq ?_))
 all_goals (subst_vars;refine bY ?_;unfold named;simp_all)
theorem IT (ds:List Dc) (n:ByteArray) (a:Int) (g:ds.length<=1099511627776):Ba w0 72 [ft ρ ds,.v (.string n),iv a] (oS ds n a):=by
 have h:Pure (.fn (.func 132) [] [.ip [.v (.string n)]]):=.fn (λa d=>by cases d) λa d=>by obtain rfl:=ae_.1 d;exact .ip λb c=>by obtain rfl:=ae_.1 c;exact .v
 have i:=aer (w0:=w0) (ρ:=ρ) (named n) ds _ [] _ g h (λx _=>⟨_,_,rfl,⟨IL x,.ip λb c=>by obtain rfl:=ae_.1 c;exact .v,trivial⟩,abS x n⟩);have j:=Hf (w0:=w0) (ρ:=ρ) ds n a g;unfold oS;obtain⟨l,e⟩:∃b,b=ds.any (named n):=⟨_,rfl⟩;obtain⟨m,f⟩:∃b,b=l_ ds n a:=⟨_,rfl⟩;rw[<-e]at i;rw[<-f]at j;rw[<-e,<-f];clear e f;refine K1 amU.2 (by simp[Tryz.ntmps72]) ?_;refine gq g72 ?_
 repeat' (first
  |refine og g72 (ae.Eg rfl i ⟨fW _,h,trivial⟩ .v ⟨.refl _,aP.fns trivial ⟨aP.box (cs:=[.v (.string n)]) (cs':=[.v (.string n)]) rfl ⟨.refl _,trivial⟩,trivial⟩,trivial⟩) ?_
  |refine og g72 (ae.ez rfl j ⟨fW _,.v,.v,trivial⟩) ?_
  |refine ad.qp rfl rfl (λc=>?_) (λc=>?_)<;>(try simp only[bL]at c)<;>(first|refine gq g72 ?_)
  |refine FR rfl (by conv=>lhs;cbv) ?_
  |refine nM rfl (by first|rfl ) ?_
  )
 all_goals (subst_vars;simp)
theorem Qs (ds:List Dc) (l:List Gl) (t:ds.length<=1099511627776) (F:l.length<=1099511627776) (u:∀g ∈ l,g.a.length<=1099511627776):Ba w0 73 [ft ρ ds,cE ρ l] (kG ds l):=by
 obtain⟨R,d⟩:∃R,R=kG ds l:=⟨_,rfl⟩;rw[<-d];refine K1 amV.2 (by simp[Tryz.ntmps73]) ?_;refine gq BX ?_
 repeat' (first
  |refine lg BX λm j=>?_
  )
 refine ad.aK (σ:=Int) 0 0 [] (λi=>[(0,ft ρ ds),(6,cE ρ l),(7,.v (.int .i64 m)),(8,.v (.int .i64 i))]) [] (λ_=>[]) (λi=>∃k:Nat,i=k/\k<=l.length/\R=kG ds (l.drop k)) (λi=>l.length - i.toNat) 0 ⟨0,rfl,by simp,by simpa using d⟩ rfl cq ?_;rintro i ⟨k,w,G,b⟩;clear d;refine gq BX ?_;by_cases y:k < l.length
 ·obtain⟨x,p,z⟩:=aD y;rw[z,kG]at b;have A:=u x (aa_ p);obtain⟨o,n,a⟩:=x;dsimp only at A;have f:=IT (w0:=w0) (ρ:=ρ) ds n a.length t;have c:qI ds ⟨o,n,a⟩=if o=0 then oS ds n a.length else 0:=rfl
  obtain⟨D,r⟩:∃D,D=oS ds n a.length:=⟨_,rfl⟩;rw[<-r]at c f;obtain⟨C,s⟩:∃C,C=qI ds ⟨o,n,a⟩:=⟨_,rfl⟩;rw[<-s]at c b;obtain⟨q,B⟩:∃q:Int,q=a.length:=⟨_,rfl⟩;rw[<-B]at f;clear r s
  repeat' (first
   |refine og BX (ae.ind rfl rfl (aB (l:=l) w p) (aA λ_=>rfl)) ?_
   |refine ad.int rfl (ae.len rfl) λm j=>?_;rw[au]at j;obtain rfl:m=q:=(by omega);refine gq BX ?_
   |refine ad.qI rfl rfl (f) (by repeat' (first|exact trivial|(refine⟨?_,?_⟩;(first|exact .v|exact fW _ )))) (λE=>?_) (λE=>?_)<;>refine gq BX ?_
   |refine ad.vt ?_;refine gq BX ?_
   |refine FR rfl (by conv=>lhs;cbv) ?_
   |refine nM rfl (by first|exact decide_eq_false (by assumption)) ?_
   |refine cg BX (λh=>?_) λh=>?_
   |refine ag BX λ_ _=>?_
   |refine ad.ao ?_;refine gq BX ?_
   )
  all_goals first
   |exfalso;omega
   |(have e:C=0:=by (rw[c];simp_all)
     rw[bD e]at b;(refine ad.az (σ:=Int) _ [] ?_ ?_ cq<;>first|omega|exact⟨k+1,by omega,by omega,b⟩))
   |(have e:C=D:=by (rw[c];simp_all)
     rw[dx (by omega)]at b;rw[b,e])
 ·skip
  repeat' (first
   |refine FR rfl (by conv=>lhs;cbv) ?_
   |refine cg BX (λh=>?_) λh=>?_
   |refine ad.ao ?_;refine gq BX ?_
   )
  all_goals first
   |exfalso;omega
   |rw[b,ak_ (by omega)];rfl
end
end
section
attribute [local irreducible] ah aG ae ad
end
section
attribute [local irreducible] ah aG ae ad
def Fi.ok (f:Fi):Prop:=f.ids.length<=1099511627776
end
section
variable {P:Program}{w0:World}{n:Nat}{o:Oper}{α:AA}{S S':af}{r:AV}
theorem St.abT {A:Nat->Prop}{g:Gh}{w:World}{k fz p:Nat}{ex:Bool}{cs:Array Value}{ty:TypeId}{news:List Value}(t:St w0 A g S w) (u:S.get k=some (.arr sz rows fz ex)) (v:g.al k) (P:w.heap[g.ob k]?=some (.cells cs ty (0,0)))
  (D:∀r ∈ more,r.length=sz) (E:news.length=more.length*sz) (F:∀(i:Nat) (row:List AV) (j:Nat) (a:AV),more[i]?=some row->row[j]?=some a->∃x,news[i*sz+j]?=some x/\aN g w a x) (G:p+more.length<=rows.length) (H:fz<=p) :
  Ext A g w g (w.setRow (g.ob k) (cs.toList.take (p*sz)++news++cs.toList.drop (p*sz+news.length)).toArray)/\St w0 A g (S.set k (some (.arr sz (rows.take p++more++rows.drop (p+more.length)) fz ex))) (w.setRow (g.ob k) (cs.toList.take (p*sz)++news++cs.toList.drop (p*sz+news.length)).toArray):=by
 obtain⟨Q,k3,d,o,y,I,R,T,m,U,z⟩:=t.cT k _ u v;obtain⟨rfl,rfl⟩:d=cs/\o=ty:=by grind
 have V:p*sz+more.length*sz<=g.cp k*sz:=by rw[<-aJ_];exact aO_ sz (by omega)
 have W:p*sz+news.length<=d.toList.length:=by grind
 obtain⟨b,K⟩:∃b,b=(d.toList.take (p*sz)++news++d.toList.drop (p*sz+news.length)).toArray:=⟨_,rfl⟩;rw[<-K];have B:∀q,b[q]?=if q < p*sz then d[q]? else if q < p*sz+news.length then news[q - p*sz]? else d[q]?:=by grind[zF]
 have L:b.size=d.size:=by grind
 have C:(rows.take p++more++rows.drop (p+more.length)).length=rows.length:=by grind
 exact t.row u v y (cs':=b) (ob:=.arr sz (rows.take p++more++rows.drop (p+more.length)) fz ex) (λJ=>⟨by simp,by simp⟩) (λq M=>by
  have:=(z q).1 M;rw[B,if_pos (au_ this (aO_ sz H))]) (λs=>by
  refine⟨b,o,setRow_heap w _ d b o (0,0) y,L.trans I,by grind,λh=>by grind,λi row c=>?_,by grind,z⟩;rw[zF _ _ _ G]at c;split at c
  ·rename_i N;refine⟨(m i row c).1,λj a f=>?_⟩;obtain⟨x,n,l⟩:=(m i row c).2 j a f;have X:j < sz:=by grind
   exact⟨x,by grind[o3],l.later s⟩
  ·rename_i N;split at c
   ·rename_i O;have C:=D row (aa_ c);refine⟨C,λj a f=>?_⟩;obtain⟨x,n,l⟩:=F _ row j a c f;have Y:=(ar_.1 n).1;have e:i*sz=p*sz+(i - p)*sz:=by rw[<-aJ_];congr 1;omega
    exact⟨x,by rw[B,if_neg (by omega),if_pos (by omega),show i*sz+j - p*sz=(i - p)*sz+j by omega];exact n,l.later s⟩
   ·rename_i O;refine⟨(m i row c).1,λj a f=>?_⟩;obtain⟨x,n,l⟩:=(m i row c).2 j a f;have e:p*sz+news.length<=i*sz:=by rw[E,<-aJ_];exact aO_ sz (by omega)
    exact⟨x,by grind,l.later s⟩)
theorem yA {t e:TypeId}(h:l9 P t=some e):P.underlying t=some (.slice e):=by grind[l9]
theorem O_ {t e:TypeId}{l c:Operand}{z:Value}{p kb:IntKind}{a b:Int}(C:o.op=.makeSlice t l c) (D:P.underlying t=some (.slice e)) (Y:d_ P e=some z) (E:ep P e=some sz) (Z:ku P e=some by_)
  (F:z.cells.size=sz) (G:0 < sz) (H:α.ev l=.v (.int p a)) (I:α.ev c=.v (.int kb b)) (h1:0<=a) (h0:a<=b) (h2:b*by_<=35184372088832) (h3:b<=9223372036854775807) :
  a8 P w0 n o α S (.ob S.nx sz 0 a.toNat none) (S.new (.arr sz (List.replicate b.toNat (z.cells.toList.map cK)) 0 true)):=by
 intro A g q w r s;obtain⟨i,K,L⟩:=o7 E;have M:i.zero=some z:=by grind[d_]
 have BY:i.bytes=by_:=by grind[ku]
 have d:=s.ev l;have f:=s.ev c;rw[H]at d;rw[I]at f;have d:=b_ d;have f:=b_ f;have N:=run_make (P:=P) w t e i z D K M p kb a b h1 h0 (by grind) h3;have O:∀q,¬ g.fz w.heap.size q:=λq Q=>absurd (r.dw _ _ Q) (bK_ _);obtain⟨R,T⟩:=r.new (.cells (madeCells z.cells (b.toNat*i.size)) e) (.arr sz (List.replicate b.toNat (z.cells.toList.map cK)) 0 true) b.toNat (λJ=>by simp) (λhL=>by
  refine⟨_,e,dZ,?_,by simp,λ_=>by simp,λm row U=>?_,ax_ _,λq=>⟨λh=>absurd h (O q),λh=>by grind⟩⟩
  ·rw[size_madeCells,L]
  ·obtain⟨u,rfl⟩:=ar_.1 U;simp only[bH_]at u;simp only[cX_];refine⟨by grind,λj b' v=>?_⟩;simp only[aS_,ba_]at v;obtain⟨y,V,rfl⟩:=v;have x:j < sz:=by grind
   refine⟨y,?_,rE y⟩;have aw:m*sz+j < b.toNat*sz:=o3 u x;have B:j < z.cells.size:=by omega
   have W:(m*sz+j) % z.cells.size=j:=by
    rw[F,cs_,ct_];exact cu_ x
   have X:(madeCells z.cells (b.toNat*i.size))[m*sz+j]?=some (z.cells[(m*sz+j) % z.cells.size]!):=by
    unfold madeCells;rw[bZ_,cr_,if_pos (by grind)]
    rfl
   rw[X,W,getElem!_pos z.cells j B,<-V,bd_,aG_ B])
 refine⟨.slice (some ⟨w.heap.size,0,none⟩) a.toNat b.toNat,_,_,.inl ?_,?_,T,R⟩
 ·simp only[execOp,C,d,f,Sem.run_bind,N]
  rfl
 ·have:=aN.ob (g:=g.new S.nx w.heap.size b.toNat) (w:=w.alloc (.cells (madeCells z.cells (b.toNat*i.size)) e)) (k:=S.nx) (sz:=sz) (off:=0) (len:=a.toNat) (c:=b.toNat) (cx:=none) (.inr rfl) (λm h=>by grind)
   (by rw[aD_];exact bN_ (aJ _ _ _).symm) (λ_=>by rw[aD_];exact (aJ _ _ _).symm) (by omega)
  rw[show (g.new S.nx w.heap.size b.toNat).ob S.nx=w.heap.size from aJ _ _ _,aW_]at this;exact this
theorem ae.aeQ {z:List AV}{l c:QO}{k f:IntKind}{a b:Int}(h1:l.ev α.tm=.v (.int k a)) (h2:c.ev α.tm=.v (.int f b)) (h3:0<=a) (h4:a<=b) (h5:b*by_<=35184372088832) (h6:b<=9223372036854775807) :
  ae P w0 false (.pI z by_ l c) α S (.ob S.nx z.length 0 a.toNat none) (S.new (.arr z.length (List.replicate b.toNat z) 0 true)):=ae.run λn o g=>by
 obtain⟨t,u,v,e,h,sz,i,rfl,rfl,j,m,p,q,rfl,d,r⟩:=PE g;have s:(h.cells.toList.map cK).length=sz:=by rw[<-aH_ d];simp
 rw[aW]at h1 h2;rw[s];exact O_ i (yA j) m p q (aH_ d) (aq_ r) h1 h2 h3 h4 h5 h6
theorem ae.amW {k fz len:Nat}{ex:Bool}{a b:QO}{x:List AV}(h1:a.ev α.tm=.ob k sz 0 len none) (I:S.get k=some (.arr sz rows fz ex)) (l:kA S (b.ev α.tm)=some (x::more)) (h0:fz<=len) (h2:len+(x::more).length<=rows.length)
  (h3:∀row ∈ x::more,row.length=sz/\row.all dh=true) :
  ae P w0 false (.append sz by_ a b) α S (.ob k sz 0 (len+(x::more).length) none) (S.set k (some (.arr sz (rows.take len++(x::more)++rows.drop (len+(x::more).length)) fz ex))):=ae.run λn o f=>by
 obtain⟨c,t,t2,u,v,e,e2,z,R,T,B,C,rfl,rfl,s,D,hz,U,pe,xu,UN⟩:=pG f;rw[aW]at h1 l;obtain⟨l,hlen⟩:=j_ l;have B:c.argTypes=#[t,t2]:=by rw[<-dz_ (xs:=c.argTypes),B]
 have C:c.args=#[u,v]:=by rw[<-dz_ (xs:=c.args),C]
 have s:=yA s;have D:=yA D;intro A g q w E J;have K:=J.ev u;have W:=J.ev v;rw[h1]at K;obtain⟨cc,X,F,kH,Y,L,Z⟩:=nt K;obtain⟨b2,q2,c2,news,e3,Sm,d⟩:=sM E l W (by simp) (λr f=>(h3 r f).1) hlen;obtain⟨k2,k3,y,vN,M,p2,p3,p4,p5,p6,p7⟩:=E.cT k _ I F;obtain⟨i,G,H⟩:=o7 U;have adr:=L rfl;have N:len+(x::more).length<=cc:=by omega
 have eI:len*sz+(x::more).length*sz<=g.cp k*sz:=by rw[<-aJ_];exact aO_ sz (by omega)
 have O:0+len*i.size+news.length<=y.size:=by rw[d.1,p2,H];omega
 have Q:=xx (P:=P) w t o.type e vN i s G (g.ob k) 0 len cc y M ⟨b2,q2,none⟩ (x::more).length c2 news (by rw[d.1,H]) d.2.1 (MF d h3) N O;simp only[aD_,H]at Q O;obtain⟨hE,eC⟩:=E.abT (p:=len) (more:=x::more) (news:=news) I F M (λr f=>(h3 r f).1) d.1 (λi row j a G ha=>d.2.2 i row G j a ha) h2 h0;refine⟨.slice (some ⟨g.ob k,0,none⟩) (len+(x::more).length) cc,_,g,.inl ?_,?_,eC,hE⟩
 ·have hx:(execOp q.eval o).run P w=((Builtin.append_ #[t,t2] o.type #[q.eval u,q.eval v]).run P w).andThen λv w'=>.ok (.value v) w':=by
   simp[execOp,R,resolve,T,B,C,invoke,builtin]
  rw[hx,X,e3,sN s D,aW_,Q]
  rfl
 ·have:=aN.ob (g:=g) (w:=w.setRow (g.ob k) (y.toList.take (len*sz)++news++y.toList.drop (len*sz+news.length)).toArray) (k:=k) (sz:=sz) (off:=0) (len:=len+(x::more).length) (c:=cc) (cx:=none) F (λm h=>by grind) Y L N;rw[aW_]at this;exact this
end
def zh (env:List Bd) (v:Int):Option Tm:=(env.find? λb=>b.v == v).map (·.t)
theorem iO (t:Tm):cR t=1+bp t.a:=by obtain⟨k,i,n,a⟩:=t;rw[cR];simp only;omega
mutual
def BZ:Tm->Prop
 |⟨k,i,n,a⟩=>(k=1->0<=i/\i<=1099511627776)/\vu a
def vu:List Tm->Prop
 |[]=>True
 |x::l=>BZ x/\vu l
end
mutual
def dU (b:List Bd):Tm->Tm
 |⟨k,i,n,a⟩=>if k=1 then (match zh b i with|some u=>u|none=>⟨k,i,n,a⟩) else if k=2 then ⟨k,i,n,sO b a⟩ else ⟨k,i,n,a⟩
def sO (b:List Bd):List Tm->List Tm
 |[]=>[]
 |x::l=>dU b x::sO b l
end
theorem mG (b:List Bd):∀l,sO b l=l.map (dU b)
 |[]=>by rw[sO];rfl
 |x::l=>by rw[sO,mG b l];rfl
def im (b:List Bd) (g:Gl):Gl:=⟨g.op,g.n,g.a.map (dU b)⟩
structure CI (cl:List Nat) (c:Nat->Nat) (n:Nat):Prop where
 len:cl.length=n
 at_:∀i,i < n->bT cl i=c i
 cc:∀i,i < n->c i < n/\c (c i)=c i
def cM (N:aS) (cl:List Nat) (C:Nat):Option Nat:=(List.range N.length).find? λi=>decide (bT cl i=C) && decide ((tn N i).k ≠ 1)
theorem C_ {N:aS}(h:CI cl c N.length) (C:Nat):ix N c C (cM N cl C):=by
 unfold cM;cases b:(List.range N.length).find? λi=>decide (bT cl i=C) && decide ((tn N i).k ≠ 1) with
 |none =>
  intro i d e;have:=List.find?_eq_none.1 b i (aI_.2 d);rw[h.at_ i d]at this;simpa[e] using this
 |some s =>
  have a:=List.find?_some b;have f:=aI_.1 (cl_ b);rw[h.at_ s f]at a;simp only[al_,decide_eq_true_eq]at a;exact⟨f,a.1,a.2⟩
def pf (f:List Nat->Nat->Nat->Option (Bool × List Nat)):List (Nat × Nat)->List Nat->Option (Bool × List Nat)
 |[],cl=>some (true,cl)
 |p::l,cl=>match f cl p.1 p.2 with
  |none=>none
  |some (false,a)=>some (false,a)
  |some (true,a)=>pf f l a
def MG (N:aS) (i k:Nat):Bool:=(tn N i).k == (tn N k).k && (tn N i).i == (tn N k).i && decide ((tn N i).n.toList=(tn N k).n.toList) && decide ((ks N i).length=(ks N k).length)
def Bb (cl:List Nat) (x y:Nat):List Nat:=cl.map λz=>if z=y then x else z
def jR (N:aS):Nat->List Nat->Nat->Nat->Option (Bool × List Nat)
 |0,_,_,_=>none
 |m+1,cl,a,b=>if a < N.length/\b < N.length then (if bT cl a=bT cl b then some (true,cl) else
  match cM N cl (bT cl a),cM N cl (bT cl b) with
  |some i,some k=>if MG N i k then pf (jR N m) ((ks N i).zip (ks N k)) (Bb cl (bT cl a) (bT cl b)) else some (false,Bb cl (bT cl a) (bT cl b))
  |_,_=>some (true,Bb cl (bT cl a) (bT cl b))) else none
theorem Sn {b:Nat}(a:c b=b) (h:b < n):0 < gI c n:=by
 have:=ym (c:=c) (d:=λi=>i+1) (λi e=>by omega) a (by omega) n h;omega
section
variable {E:List (Tm × Tm)}{N:aS}{D:List (Nat × Nat)}
theorem CI.merge (h:CI cl c n) {a b:Nat}(f:c a=a) (g:a < n) (j:a ≠ b):CI (Bb cl a b) (gQ c a b) n:=by
 refine⟨by unfold Bb;rw[aU_];exact h.len,λi d=>?_,λi d=>?_⟩
 ·have k:=h.at_ i d;have l:=G5 (up:=cl) (i:=i) (by rw[h.len];exact d);unfold bT Bb gQ;rw[aS_,l,<-k]
  rfl
 ·unfold gQ;split
  ·rw[f,if_neg j];exact⟨g,rfl⟩
  ·rename_i e;rw[(h.cc i d).2,if_neg e];exact⟨(h.cc i d).1,rfl⟩
theorem XJ:∀(d:Nat) {cl:List Nat}{c:Nat->Nat}{a b:Nat}{P:List (Nat × Nat)},CI cl c N.length->iT E N D c ((a,b)::P)->gI c N.length<=d ->
  ∃r l,jR N (d+1) cl a b=some (r,l)/\(r=true->∃c',CI l c' N.length/\iT E N D c' P/\gI c' N.length<=gI c N.length)/\(r=false->¬ ∃f,uD E f):=by
 intro d
 induction d with
 |zero =>
  intro cl c a b P g j v;obtain⟨m,_,_⟩:=j.nH _ (.head _);have:=Sn (g.cc a m).2 (g.cc a m).1;omega
 |succ d Z =>
  intro cl c a b P g j v;obtain⟨m,w,rF⟩:=j.nH _ (.head _);simp only at m w rF;rw[jR,if_pos ⟨m,w⟩,g.at_ a m,g.at_ b w];by_cases e:c a=c b
  ·rw[if_pos e];exact⟨true,cl,rfl,λ_=>⟨c,g,j.pop e,ac_ _⟩,λh=>by cases h⟩
  ·rw[if_neg e];obtain⟨la,M⟩:=g.cc a m;obtain⟨lb,O⟩:=g.cc b w;have n:=C_ g (c a);have o:=C_ g (c b);have q:=g.merge (b:=c b) M la e;have R:gI (gQ c (c a) (c b)) N.length < gI c N.length:=by
    refine ym (λi=>G7 e M) O (λA=>?_) _ lb;unfold gQ at A;rw[O,if_pos rfl]at A;exact e A
   have simple:∀{x y:Option Nat},ix N c (c a) x->ix N c (c b) y->ni N x y=[]->(∀s t,x=some s->y=some t->alike (tn N s) (tn N t))->iT E N D (gQ c (c a) (c b)) P:=λ{x y} hx hy S z=>by
    have:=j.merge hx hy z
    rwa [S,aK_]at this
   cases T:cM N cl (c a) with
   |none =>
    rw[T]at n;exact⟨true,_,rfl,λ_=>⟨_,q,simple n o rfl (λs t h=>by cases h),Nat.le_of_lt R⟩,λh=>by cases h⟩
   |some i =>
    rw[T]at n;cases U:cM N cl (c b) with
    |none =>
     rw[U]at o;exact⟨true,_,rfl,λ_=>⟨_,q,simple n o rfl (λs t _ h=>by cases h),Nat.le_of_lt R⟩,λh=>by cases h⟩
    |some k =>
     rw[U]at o;obtain⟨B,V,W⟩:=n;obtain⟨C,X,Y⟩:=o;have z:MG N i k=true ↔ alike (tn N i) (tn N k):=by
      rw[<-A7];unfold MG qu;rw[mD j.g B,mD j.g C]
     simp only;cases F:MG N i k with
     |false=>exact⟨false,_,rfl,λh=>(by cases h),λ_=>j.ZS (s:=i) (t:=k) ⟨B,V,W⟩ ⟨C,X,Y⟩ λh=>by rw[z.2 h]at F;cases F⟩
     |true =>
      rw[if_pos rfl];have u:=j.merge (sa:=some i) (sb:=some k) ⟨B,V,W⟩ ⟨C,X,Y⟩ (λs t h1 h2=>by rw[<-oJ_ h1,<-oJ_ h2];exact z.1 F);have u:iT E N D (gQ c (c a) (c b)) ((ks N i).zip (ks N k)++P):=u
      have key:∀(Q:List (Nat × Nat)) {cl:List Nat}{c:Nat->Nat},CI cl c N.length->iT E N D c (Q++P)->gI c N.length<=d ->
        ∃r l,pf (jR N (d+1)) Q cl=some (r,l)/\(r=true->∃c',CI l c' N.length/\iT E N D c' P/\gI c' N.length<=gI c N.length)/\(r=false->¬ ∃f,uD E f):=by
       intro Q
       induction Q with
       |nil=>intro cl c g j v;exact⟨true,cl,rfl,λ_=>⟨c,g,j,ac_ _⟩,λh=>by cases h⟩
       |cons p Q G =>
        intro cl c g j v;obtain⟨x,y⟩:=p;obtain⟨r,l,k1,k2,k3⟩:=Z g j v;rw[pf];simp only[k1];cases r with
        |false=>exact⟨false,l,rfl,λh=>(by cases h),k3⟩
        |true =>
         obtain⟨c',q,u,S⟩:=k2 rfl;obtain⟨r,ph,H,I,J⟩:=G q u (by omega);exact⟨r,ph,H,λh=>let ⟨K,q1,L,q3⟩:=I h;⟨K,q1,L,by omega⟩,J⟩
      obtain⟨r,l,H,I,J⟩:=key _ q u (by omega);exact⟨r,l,H,λh=>let ⟨K,q1,L,q3⟩:=I h;⟨K,q1,L,by omega⟩,J⟩
end
inductive tU:List (Tm × Tm)->aS->List Nat->Bool->aS->List Nat->Prop
 |nil {N:aS}{cl:List Nat}:tU [] N cl true N cl
 |no {a b:Tm}{l:List (Tm × Tm)}{N:aS}{cl cW:List Nat}{m:Nat}(h:jR (bN (bN N a).1 b).1 m (cl++List.range' N.length ((bN (bN N a).1 b).1.length - N.length)) (bN N a).2 (bN (bN N a).1 b).2=some (false,cW)) :
   tU ((a,b)::l) N cl false (bN (bN N a).1 b).1 cW
 |go {a b:Tm}{l:List (Tm × Tm)}{N N':aS}{cl cW ph:List Nat}{m:Nat}{r:Bool}(h:jR (bN (bN N a).1 b).1 m (cl++List.range' N.length ((bN (bN N a).1 b).1.length - N.length)) (bN N a).2 (bN (bN N a).1 b).2=some (true,cW))
   (k:tU l (bN (bN N a).1 b).1 cW r N' ph):tU ((a,b)::l) N cl r N' ph
mutual
def sP:Tm->Prop
 |⟨k,i,n,a⟩=>(k=1->0<=i)/\qJ a
def qJ:List Tm->Prop
 |[]=>True
 |x::l=>sP x/\qJ l
end
def zj (N:aS):Prop:=∀i,i < N.length->(tn N i).k=1->0<=(tn N i).i
theorem zj.push {N:aS}(h:zj N) {t:Tm}{l:List Nat}(c:t.k=1->0<=t.i):zj (N++[(t,l)]):=by
 intro i b a;by_cases e:i < N.length
 ·have d:∀i,i < N.length->(N++[(t,l)])[i]?=N[i]?:=λi b=>bb_ b;rw[(ff d e).1]at a ⊢;exact h i e a
 ·have:i=N.length:=by rw[af_,bi_]at b;omega
  subst this;rw[lR.1]at a ⊢;exact c a
mutual
theorem FT:∀(N:aS) (t:Tm),zj N->sP t->zj (bN N t).1
 |N,⟨k,i,n,a⟩,h,b=>by
  rw[sP]at b;rw[bN];split
  ·exact h
  ·exact (JR N a h b.2).push b.1
theorem JR:∀(N:aS) (l:List Tm),zj N->qJ l->zj (bR N l).1
 |N,[],h,_=>by rw[bR];exact h
 |N,x::l,h,b=>by
  rw[qJ]at b;rw[bR];exact JR _ l (FT N x h b.1) b.2
end
theorem abU {m:Nat}(h:cl.length=n) (i:Nat):bT (cl++List.range' n m) i=if i < n then bT cl i else i:=by
 unfold bT;by_cases e:i < n
 ·rw[if_pos e,bb_ (by omega)]
 ·rw[if_neg e,be_ (by omega),h];by_cases a:i - n < m
  ·rw[List.getElem?_range' a];simp;omega
  ·rw[cY_ (by simp;omega)];rfl
theorem Qt {E:List (Tm × Tm)}:∀(l:List (Tm × Tm)) (done:List (Tm × Tm)) (N:aS) (cl:List Nat) (D:List (Nat × Nat)) (c:Nat->Nat),(∀e ∈ l,e ∈ E/\(eh e.1/\sP e.1)/\eh e.2/\sP e.2)->iT E N D c []->CI cl c N.length->zj N->(∀p ∈ D,p.1 < N.length/\p.2 < N.length) ->
  (∀e ∈ done,∃p ∈ D,p.1 < N.length/\p.2 < N.length/\tn N p.1=e.1/\tn N p.2=e.2) ->
  ∃b N' g,tU l N cl b N' g/\(b=false->¬ ∃f,uD E f)/\(b=true->∃w c',iT E N' w c' []/\CI g c' N'.length/\zj N'/\∀e ∈ done++l,∃p ∈ w,p.1 < N'.length/\p.2 < N'.length/\tn N' p.1=e.1/\tn N' p.2=e.2)
 |[],done,N,cl,D,c,_,z,q,H,I,J=>⟨true,N,cl,.nil,λh=>(by cases h),λ_=>⟨D,c,z,q,H,by rw[aB_];exact J⟩⟩
 |(a,b)::l,done,N,cl,D,c,A,z,q,H,I,J=>by
  obtain⟨Z,⟨T,U⟩,V,W⟩:=A (a,b) (by simp);simp only at T V U W;obtain⟨K,L,X⟩:=pO N a z.g T;obtain⟨B,s,C⟩:=pO (bN N a).1 b K.g V;have t:=FT _ b (FT N a H U) W;have F:tn (bN (bN N a).1 b).1 (bN N a).2=a:=by rw[B.tn L,X]
  have u:(bN N a).2 < (bN (bN N a).1 b).1.length:=au_ L B.le;have k:vo N (bN (bN N a).1 b).1:=K.trans B
  have key:∀{r:Bool}{N':aS}{j:List Nat}{d:aS}{x y:Nat},d=(bN (bN N a).1 b).1->x=(bN N a).2->y=(bN (bN N a).1 b).2 ->
    ((∃m,jR d m (cl++List.range' N.length (d.length - N.length)) x y=some (false,j)/\r=false/\N'=d)\/(∃m g,jR d m (cl++List.range' N.length (d.length - N.length)) x y=some (true,g)/\tU l d g r N' j))->tU ((a,b)::l) N cl r N' j:=by
   rintro r N' j d x y rfl rfl rfl (⟨m,h,rfl,rfl⟩|⟨m,g,h,n⟩)
   ·exact .no h
   ·exact .go h n
  obtain⟨d,M⟩:∃d,d=(bN (bN N a).1 b).1:=⟨_,rfl⟩;obtain⟨x,O⟩:∃x,x=(bN N a).2:=⟨_,rfl⟩;obtain⟨y,P⟩:∃y,y=(bN (bN N a).1 b).2:=⟨_,rfl⟩;have key:∀{r:Bool}{N':aS}{j:List Nat},((∃m,jR d m (cl++List.range' N.length (d.length - N.length)) x y=some (false,j)/\r=false/\N'=d)\/(∃m g,jR d m (cl++List.range' N.length (d.length - N.length)) x y=some (true,g)/\tU l d g r N' j))->tU ((a,b)::l) N cl r N' j:=λh=>key M O P h;rw[<-M]at t F u k s C;rw[<-O]at F u;rw[<-P]at s C;clear M O P B K L X;have g:∀i,i < N.length->c i < N.length:=λi o=>(q.cc i o).1;have nE:=z.grow (N':=d) (c':=λi=>if i < N.length then c i else i) I k.g k.le k.pre (λi o=>⟨if_pos o,g i o⟩) (λi o=>if_neg (by omega)) u s (by rw[F,C];exact Z);have yB:CI (cl++List.range' N.length (d.length - N.length)) (λi=>if i < N.length then c i else i) d.length:=by
   have hle:=k.le;refine⟨by rw[af_,List.length_range',q.len];omega,λi o=>?_,λi o=>?_⟩
   ·rw[abU q.len];by_cases e:i < N.length
    ·simp only[if_pos e];exact q.at_ i e
    ·simp only[if_neg e]
   ·by_cases e:i < N.length
    ·simp only[if_pos e,if_pos (g i e)];exact⟨by have:=g i e;omega,(q.cc i e).2⟩
    ·simp only[if_neg e];exact⟨o,trivial⟩
  obtain⟨r,j,Y,j2,j3⟩:=XJ _ yB nE (ac_ _);cases r with
  |false=>exact⟨false,_,_,key (.inl ⟨_,Y,rfl,rfl⟩),λ_=>j3 rfl,λh=>by cases h⟩
  |true =>
   obtain⟨c',lh,nf,_⟩:=j2 rfl;obtain⟨r,N',Q,k1,k2,k3⟩:=Qt l (done++[(a,b)]) d j ((x,y)::D) c' (λe h=>A e (by simp[h])) nf lh t (λp R=>by
    rcases ad_.1 R with rfl|R
    ·exact⟨u,s⟩
    ·obtain⟨v,n⟩:=I p R;have:=k.le;exact⟨au_ v this,au_ n this⟩) (λe h=>by
    rcases az_.1 h with h|h
    ·obtain⟨p,v,n,G,S,h5⟩:=J e h;have:=k.le;exact⟨p,by simp[v],au_ n this,au_ G this,by rw[k.tn n];exact S,by rw[k.tn G];exact h5⟩
    ·obtain rfl:=ae_.1 h;exact⟨(x,y),by simp,u,s,F,C⟩)
   exact⟨r,N',Q,key (.inr ⟨_,j,Y,k1⟩),k2,λe=>by
    obtain⟨w,c',v,n,G,S⟩:=k3 e;exact⟨w,c',v,n,G,λe A=>S e (by simpa using A)⟩⟩
theorem MH {n:ByteArray}(h:vm n a=true):n=⟨#[]⟩/\a=[]:=by
 unfold vm at h;rw[al_]at h;exact⟨Ua.1 (eq_of_beq h.1),List.isEmpty_iff.1 h.2⟩
mutual
theorem MJ:∀x:Tm,kh x=true->x.ok->eh x/\jy x/\sP x/\BZ x/\cR x=cY x
 |⟨k,i,n,a⟩,h,b=>by
  rw[kh]at h;rw[Tm.ok]at b;rw[eh,jy,sP,BZ,cR,cY];by_cases d:k=0
  ·rw[if_pos d]at h;simp only[al_,decide_eq_true_eq]at h;obtain⟨rfl,rfl⟩:=MH h.2;rw[if_neg (by omega),if_neg (by omega)];exact⟨⟨by rw[gH];trivial,.inr rfl⟩,⟨by simp,b.2.1,by rw[jV];trivial⟩,⟨by omega,by rw[qJ];trivial⟩,⟨by omega,by rw[vu];trivial⟩,by rw[bp]⟩
  ·rw[if_neg d]at h;by_cases c:k=1
   ·rw[if_pos c]at h;simp only[al_,decide_eq_true_eq]at h;obtain⟨rfl,rfl⟩:=MH h.2;rw[if_pos c,if_neg (by omega)];exact⟨⟨rfl,rfl⟩,⟨by simp,b.2.1,by rw[jV];trivial⟩,⟨λ_=>h.1.1,by rw[qJ];trivial⟩,⟨λ_=>⟨h.1.1,by omega⟩,by rw[vu];trivial⟩,by rw[bp]⟩
   ·rw[if_neg c]at h;split at h
    ·rename_i f;simp only[al_,cd_,beq_iff_eq,decide_eq_true_eq]at h;obtain⟨g,j,m,o,s⟩:=Da a h.2 b.2.2;rw[if_neg c,if_pos f];refine⟨⟨g,.inl f⟩,⟨?_,b.2.1,j⟩,⟨λe=>absurd e c,m⟩,⟨λe=>absurd e c,o⟩,by omega⟩;rcases h.1.2 with p|p<;>omega
    ·grind
theorem Da:∀l:List Tm,jI l=true->dG l->gH l/\jV l/\qJ l/\vu l/\bp l=bw l
 |[],_,_=>⟨by rw[gH];trivial,by rw[jV];trivial,by rw[qJ];trivial,by rw[vu];trivial,by rw[bp,bw]⟩
 |x::l,h,b=>by
  rw[jI,al_]at h;rw[dG]at b;obtain⟨t,u,v,w,q⟩:=MJ x h.1 b.1;obtain⟨y,z,A,B,r⟩:=Da l h.2 b.2;exact⟨by grind[gH],by grind[jV],by grind[qJ],by grind[vu],by rw[bp,bw,q,r]⟩
end
theorem rH {x:Tm}(h:cd x=true) (a:x.ok):eh x/\jy x/\sP x/\BZ x/\cR x<=200:=by grind[cd,MJ]
theorem UO (h:l.all cd=true):jI l=true:=by
 induction l with
 |nil=>rw[jI]
 |cons x l a =>
  rw[aY_,al_]at h;rw[jI,al_];refine⟨?_,a h.2⟩;have:=h.1;unfold cd at this;simp only[al_]at this;exact this.1.1
theorem Hp (h:mw l=true) (a:dG l):gH l/\jV l/\qJ l/\vu l/\bp l<=200:=by grind[mw,Da,UO]
end Go.Proofs.YtbpabjmnhggajaaGreat
