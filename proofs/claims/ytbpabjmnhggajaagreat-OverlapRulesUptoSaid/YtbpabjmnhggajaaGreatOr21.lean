import Derived.Laws.StructEq
import Derived.Lib.Bytealg
import Derived.Test.YtbpabjmnhggajaaGreatOr20
namespace Go.Proofs.YtbpabjmnhggajaaGreat
set_option linter.all false
set_option maxRecDepth 100000
open Go.RowKit
variable {ex ex':Bool}{more rows:List (List AV)}{es:List (Value × AV)}{args:List AV}{by_ kt sz t:Nat}{a b i x:QO}{v:Value}{c:Value->Bool}
section
attribute [local irreducible] ah aG ae ad
def ah_:FQ 303 Tryz.f303:=aF Tryz.func303 Tryz.call303
def aea:List Nat:=[4,0,1]
def aia:FQ 289 Tryz.f289:=aF Tryz.func289 Tryz.call289
def Mg:List Nat:=[8,0,1,5,9,10,6,11,12,13,4,16,24,31,36,59,64,73,7,93,107,114,132,139]
def aib:FQ 274 Tryz.f274:=aF Tryz.func274 Tryz.call274
def aeb:List Nat:=[4,0,1]
def aic:FQ 258 Tryz.f258:=aF Tryz.func258 Tryz.call258
def Xj:List Nat:=[4,0,1]
def Z1:FQ 230 Tryz.f230:=aF Tryz.func230 Tryz.call230
def FH:List Nat:=[0,2]
def vq:ByteArray:=⟨#[43,45,42,47,37]⟩
section
variable {w0:World}{ρ:Hd}
theorem ibs (s:ByteArray) (c:Int) (w:World):(callFunc 311 #[.string s,.int .u8 c]).run Tryz.prog w=.ok (.value (.int .i64 (Lib.indexByte s.data.toList c.toNat.toUInt8))) w:=by
 rw[run_callFunc_extern Tryz.func311 (by kernel_rfl) (by kernel_rfl) (by kernel_rfl) (e:=Extern.BytealgIndexByte.indexByte) (by kernel_rfl),Lib.run_indexByteString]
 rfl
theorem O8 (s:ByteArray) (c:Int):ah Tryz.prog w0 303 [.v (.string s),.v (.int .u8 c)] (iv (Lib.indexByte s.data.toList c.toNat.toUInt8)):=by
 refine st ah_ aea .v ?_
 repeat' (first
  |refine ig aea (ae.ext (xs:=[.string s,.int .u8 c]) rfl rfl (ibs s c)) λ_ _=>?_
  |(refine fq ?_))
 all_goals (subst_vars;exact dP rfl)
theorem Xk (n:ByteArray) (c:UInt8) (h:n.data.toList=[c]):ah Tryz.prog w0 289 [.v (.string vq),.v (.string n)] (iv (Lib.indexByte vq.data.toList c)):=by
 have b:=nJ n;rw[h]at b;have d:=toL_eq n;rw[h]at d;have e:idx n.data.toList 0=some c:=Fy h;refine st aia Mg .v ?_
 repeat' (first
  |refine ig Mg (ae.R4 rfl rfl e) λ_ _=>?_
  |refine ig Mg (pl (O8 _ _)) λ_ _=>?_
  |refine cg Mg (λa=>?_) λa=>?_
  |refine lg Mg λm f=>?_
  |(refine fq ?_))
 all_goals first
  |exfalso;simp only[aw_,aN_]at b;omega
  |exfalso;rename_i a;rw[d,toL_eq]at a;simp at a;done
  |subst_vars;exact dP (by simp[vq])
theorem abH (n:ByteArray) (c:UInt8) (h:n.data.toList=[c]):ah Tryz.prog w0 274 [.v (.string vq),.v (.string n)] (iv (Lib.indexByte vq.data.toList c)):=by
 have a:=Xk (w0:=w0) n c h;obtain⟨r,b⟩:∃r,r=Lib.indexByte vq.data.toList c:=⟨_,rfl⟩;rw[<-b]at a ⊢;refine st aib aeb .v ?_
 repeat' (first
  |apply bK aeb a
  |(refine fq ?_))
 all_goals exact dP rfl
theorem Sa (n:ByteArray) (c:UInt8) (h:n.data.toList=[c]):ah Tryz.prog w0 258 [.v (.string vq),.v (.string n)] (.v (.bool (decide (Lib.indexByte vq.data.toList c>=0)))):=by
 have a:=abH (w0:=w0) n c h;obtain⟨r,b⟩:∃r,r=Lib.indexByte vq.data.toList c:=⟨_,rfl⟩;rw[<-b]at a ⊢;refine st aic Xj .v ?_
 repeat' (first
  |apply bK Xj a
  |refine cg Xj (λd=>?_) λd=>?_
  |(refine fq ?_))
 all_goals (refine bY ?_;simp_all)
theorem aec (n:ByteArray) (c:UInt8) (h:n.data.toList=[c]):eB n=decide (Lib.indexByte vq.data.toList c>=0):=by
 have e:vq.data.toList=[43,45,42,47,37]:=rfl;rw[eB,toL_eq n,h,e];simp only[toL_eq];have b:∀d:UInt8,([c] == [d])=(d == c):=λd=>by grind
 rw[b,b,b,b,b];unfold Lib.indexByte Lib.indexByte Lib.indexByte Lib.indexByte Lib.indexByte Lib.indexByte;cases (43:UInt8) == c<;>cases (45:UInt8) == c<;>cases (42:UInt8) == c<;>cases (47:UInt8) == c<;>cases (37:UInt8) == c<;>rfl
theorem Xl (n:ByteArray) (h:n.size ≠ 1):eB n=false:=by
 rw[nJ]at h;rw[eB];simp only[toL_eq];have b:∀d:UInt8,(n.data.toList == [d])=false:=λd=>by grind
 rw[b,b,b,b,b];rfl
theorem G8 (n:ByteArray):ah Tryz.prog w0 230 [.v (.string n)] (.v (.bool (eB n))):=by
 have b:=nJ n;by_cases d:n.size=1
 ·obtain⟨c,h⟩:∃c,n.data.toList=[c]:=by
   rw[d]at b
   match j:n.data.toList,b with
   |[c],_=>exact⟨c,rfl⟩
   |[],h=>simp at h
   |_::_::_,h=>simp at h
  rw[aec n c h];have e:=Sa (w0:=w0) n c h;obtain⟨r,f⟩:∃r,r=decide (Lib.indexByte vq.data.toList c>=0):=⟨_,rfl⟩;rw[<-f]at e ⊢;refine st Z1 FH .v ?_
  repeat' (first
   |refine bg FH (pl e) (λ_=>?_) λ_=>?_
   |refine cg FH (λa=>?_) λa=>?_
   |refine lg FH λm g=>?_
   |(refine fq ?_))
  all_goals first
   |exfalso;omega
   |refine bY ?_;rename_i i;rw[i]
 ·rw[Xl n d];refine st Z1 FH .v ?_
  repeat' (first
   |refine cg FH (λa=>?_) λa=>?_
   |refine lg FH λm g=>?_
   |(refine fq ?_))
  all_goals first
   |exact bY rfl
   |exfalso;omega
end
end
section
attribute [local irreducible] ah aG ae ad
def amG:FQ 69 Tryz.f69:=aF Tryz.func69 Tryz.call69
def Uj:List Nat:=[1,6,15,18,2,0,7,3,4]
section
variable {w0:World}{ρ:Hd}
theorem abI (x:Tm) (a:x.ok):ah Tryz.prog w0 173 [tm ρ x] (.v (.bool (cd x))):=Xf G8 x a
theorem zI (x:At) (a:x.ok) (b:x.n.size<=1099511627776):ah Tryz.prog w0 68 [at_ ρ x] (.v (.bool (fH x))):=Xg G8 x a b
theorem zJ (x:Gl) (v:x.ok) (r:x.n.size<=1099511627776):ah Tryz.prog w0 69 [gl ρ x] (.v (.bool (dE x))):=by
 obtain⟨o,n,a⟩:=x;obtain⟨g,d⟩:=v;dsimp only at g d r;have i:=zI (w0:=w0) (ρ:=ρ) ⟨n,a⟩ ⟨g,d⟩ r;have e:=zE (w0:=w0) (ρ:=ρ) (a:=a) 20 (λy w z j A=>⟨(ju y _ _ j).1,(ju y _ _ j).2,IF (ρ:=ρ) G8 y 20 z (d.mem y w) j A (by omega) (by omega)⟩) g 200 (by omega) (by omega);have f:=JC a;obtain⟨⟨b,B⟩,s⟩:∃p,p=c9 a 20 200:=⟨_,rfl⟩;rw[<-s]at e f;simp only at e f;obtain⟨t,k⟩:∃t,t=fH ⟨n,a⟩:=⟨_,rfl⟩;rw[<-k]at i;obtain⟨R,c⟩:∃R,R=dE ⟨o,n,a⟩:=⟨_,rfl⟩;rw[<-c];rw[dE]at c;simp only at c;rw[<-k,<-f]at c;clear f s k d;refine st amG Uj .v ?_
 repeat' (first
  |refine bg Uj (pl i) (λ_=>?_) λ_=>?_
  |(refine bg Uj (ae.mY (m:=[(0,1)]) (to:=[(1,some (iZ B))]) e rfl ⟨Rn.pt rfl rfl,Rn.pure (cG _),Rn.pure .v,trivial⟩ (Rb.pure .v) rfl rfl ⟨⟨_,rfl,lj.pure (kY _)⟩,trivial⟩ ⟨⟨0,_,rfl,rfl,me.pure (kY _)⟩,trivial⟩ rfl (by repeat (first|exact (λ_ _ h=>by grind)|refine rB ?_ rfl)) (.inr rfl)) (λl=>?_) λl=>?_)
  |refine cg Uj (λl=>?_) λl=>?_
  |refine lg Uj λm C=>?_
  |(refine fq ?_))
 all_goals (clear i e;refine bY ?_;rw[c];clear c)
 all_goals first
  |rw[if_pos (by omega)];simp_all;done
  |(rw[if_neg (by omega)]
    obtain⟨u,q⟩:∃u,u=arity o:=⟨_,rfl⟩;rw[<-q];unfold arity at q
    (repeat' split at q)<;>first|(exfalso;omega)|(simp_all<;>(intros;omega)))
  |rw[if_neg (by omega),decide_eq_false (show ¬ arity o=(a.length:Int) by unfold arity;(repeat' split)<;>omega)];simp;done
end
end
section
attribute [local irreducible] ah aG ae ad
def aid:FQ 219 Tryz.f219:=aF Tryz.func219 Tryz.call219
def aed:List Nat:=[0,1,4,5,9]
section
variable {w0:World}{ρ:Hd}
theorem P7 (a b:Int):ah Tryz.prog w0 219 [iv a,iv b] (iv (iG a b)):=by
 refine st aid aed .v ?_
 repeat' (first
  |refine cg aed (λc=>?_) λc=>?_
  |(refine fq ?_))
 all_goals (refine aP.of_eq ?_;simp only[iG,iv];(repeat' split)<;>first|rfl|omega)
end
end
section
attribute [local irreducible] ah aG ae ad
def amH:FQ 49 Tryz.f49:=aF Tryz.func49 Tryz.call49
def CN:List Nat:=[7,0,6,11,1,2,29]
def l_ (l:List Dc) (n:ByteArray) (a:Int):Bool:=l.any λd=>d.n.toList == n.toList && d.ar == a
section
variable {w0:World}{ρ:Hd}
theorem G_ (l:List Dc) (n:ByteArray) (a:Int) (q:l.length<=1099511627776):ah Tryz.prog w0 49 [ft ρ l,.v (.string n),iv a] (.v (.bool (l_ l n a))):=by
 unfold l_;obtain⟨R,e⟩:∃R,R=l.any λd=>d.n.toList == n.toList && d.ar == a:=⟨_,rfl⟩;rw[<-e];refine st amH CN .v ?_
 refine ad.aK (σ:=Int) 0 0 [] (λi=>[(0,ft ρ l),(1,.v (.string n)),(2,.v (.int .i64 a)),(7,.v (.int .i64 i))]) [] (λ_=>[])
  (λi=>∃k:Nat,i=k/\k<=l.length/\R=(l.drop k).any λd=>d.n.toList == n.toList && d.ar == a) (λi=>l.length - i.toNat) 0 ⟨0,rfl,by simp,by grind⟩ rfl cq ?_
 rintro i ⟨k,g,r,b⟩;clear e;refine gq CN ?_;by_cases h:k < l.length
 ·obtain⟨x,j,o⟩:=aD h;rw[o,bS_]at b
  repeat' (first
   |refine og CN (ae.ind rfl rfl (aB (l:=l) g j) (aA λ_=>rfl)) ?_
   |refine cg CN (λc=>?_) λc=>?_
   |refine lg CN λm p=>?_
   |refine ag CN λ_ _=>?_
   |refine ad.ao ?_;refine gq CN ?_
   |refine ad.bh ?_;refine gq CN ?_
   |(refine fq ?_))
  all_goals first
   |refine bY ?_;rw[b];simp_all;done
   |(refine ad.az (σ:=Int) _ [] ?_ ?_ cq
     ·grind
     ·omega)
 ·skip
  repeat' (first
   |refine cg CN (λc=>?_) λc=>?_
   |refine lg CN λm p=>?_
   |refine ad.ao ?_;refine gq CN ?_
   |(refine fq ?_))
  all_goals first
   |exfalso;omega
   |rw[b,ak_ (by omega)];exact bY rfl
end
end
section
variable {P:Program}{w0:World}{α:AA}{S:af}
theorem P8 {o:Op}{y:QO}(h:res P.toTables o=some (.eqs t x y)):∃u v s,o=.binOp .eql t u v s/\x=qo u/\y=qo v:=by
 cases o with
 |binOp a b u v s =>
  simp only[res]at h;split at h
  ·grind
  ·grind
  ·grind
  ·grind
  ·split at h
   ·simp only[oI_,mz.eqs.injEq]at h;obtain⟨rfl,rfl,rfl⟩:=h;exact⟨_,_,_,rfl,rfl,rfl⟩
   ·grind
  ·grind
 |_ =>
  simp only[res]at h
  repeat' split at h
  all_goals cases h
def EqS (P:Program) (t:Nat) (a b:Value) (e:Bool):Prop:=(∃c ys,a=.agg c/\b=.agg ys)/\P.eqGuardType P.depth t=false/\∀w,(binOp .eql t a b).run P w=.ok (.bool e) w
theorem P9 {y:QO}{a b:Value}{e:Bool}(h:EqS P t a b e) {n:Nat}{o:Oper}(j:res P.toTables o.op=some (.eqs t x y)) (β:AA) (d:toV (x.ev β.tm)=some a) (f:toV (y.ev β.tm)=some b):iY P w0 n o β S (.v (.bool e)) S:=by
 obtain⟨u,v,s,k,rfl,rfl⟩:=P8 j;rw[aW]at d f;refine a8.ops (a8.quiet λA g c w B i=>⟨.bool e,?_,.v⟩) λc e=>by grind
 have l:=zB (i.ev u) d;have m:=zB (i.ev v) f;obtain⟨⟨p,ys,rfl,rfl⟩,q,r⟩:=h;have z:(eqGuard .eql t u v (.agg p) (.agg ys)).run P w=.ok () w:=by
  simp[eqGuard,q]
 simp only[execOp,k,l,m,Sem.run_bind,z,Result.andThen_ok,r w,Sem.run_pure]
theorem ae.eqs {dr:Bool}{y:QO}{a b:Value}{e:Bool}(g:toV (x.ev α.tm)=some a) (i:toV (y.ev α.tm)=some b) (h:EqS P t a b e):ae P w0 dr (.eqs t x y) α S (.v (.bool e)) S:=by
 cases dr with
 |false=>exactλn o c=>P9 h c α g i
 |true =>
  intro n o c;obtain⟨u,v,s,d,j,k⟩:=P8 c;have key:∀z ∈ o.op.operands,(α.only (dH o)).ev z=α.ev z:=λz l=>gm λt e=>gw (by grind);have m:(α.only (dH o)).ev u=α.ev u:=key u (by rw[d];simp[Op.operands]);have p:(α.only (dH o)).ev v=α.ev v:=key v (by rw[d];simp[Op.operands]);have f:∀T,iY P w0 n o (α.only (dH o)) T (.v (.bool e)) T:=λT=>P9 h c _ (by grind[aW]) (by grind[aW]);exact⟨f S,λ_=>⟨rfl,f⟩,λ_=>rfl⟩
end
section
variable {P:Program}{w0:World}{rd dr:Bool}{n B:Nat}{α aE:AA}{S S':af}{Q:Exit->AA->af->Prop}{r:AV}{l:List QI}{K:List f_}{o:Oper}
theorem CO {k len:Nat}{o:Oper}(x:res P.toTables o.op=some (.append sz by_ (.t t) b)) (h1:α.tm t=.gr k sz len) (G:S.get k=some (.arr sz rows 0 ex)) (L:len=rows.length)
  (M:∀c,b.ev (bE α.tm t c)=b.ev α.tm) (N:kA S (b.ev α.tm)=some []):iY P w0 n o α S (.gr k sz len) S:=by
 intro F y A g a w z R B C d D;have H:t < n:=by
  rcases bo_ t n with h|h
  ·grind
  ·have:=d.out t h;rw[h1]at this;cases this
 have e:=d.tm t H;rw[h1]at e;obtain⟨v,f⟩:∃v,a.tmps.getD t undef=v:=⟨_,rfl⟩;have E:α.tm t ≠ .u:=by grind
 rw[f]at e;rcases r_ e with ⟨h,O,rfl⟩|⟨I,c,rfl,Q,i⟩
 ·have j:cA g w n ⟨bE α.tm t (.sl true []),α.df⟩ a:=d.slot E (by rw[f];exact .nil λ_=>rfl);have l:=ae.Ik (P:=P) (w0:=w0) (dr:=false) (α:=⟨bE α.tm t (.sl true []),α.df⟩) (S:=S) (sz:=sz) (by_:=by_) (a:=.t t) (b:=b) (rows:=[]) (aJ _ _ _) (by grind) n o x;refine l F y A g a w z R B C j λv p q r s k3=>D v p q ?_ s k3;subst h;cases r with
  |nil u=>obtain rfl:=u rfl;exact .kO
  |sl u=>exact absurd rfl u
 ·have j:cA g w n ⟨bE α.tm t (.ob k sz 0 len none),α.df⟩ a:=d.slot E (by
   rw[f];have:=aN.ob (g:=g) (w:=w) (k:=k) (sz:=sz) (off:=0) (len:=len) (c:=c) (cx:=none) I (λm h=>by grind) (by omega) (λ_=>by omega) i
   rwa [aW_]at this)
  have l:=ae.RJ (P:=P) (w0:=w0) (dr:=false) (α:=⟨bE α.tm t (.ob k sz 0 len none),α.df⟩) (S:=S) (sz:=sz) (by_:=by_) (a:=.t t) (b:=b) (k:=k) (fz:=0) (ex:=ex) (rows:=rows) (sz':=sz) (aJ _ _ _) G (by grind) n o x;refine l F y A g a w z R B C j λv p q r s k3=>D v p q ?_ s k3;cases r with
  |ob q1 T U V K=>rw[aW_];exact .gr q1 (by grind) K
theorem jv {S:af}{l:List (List AV)}:kA S (.sl ex l)=some l:=by
 simp[kA,rowsOf,qg]
section
variable {ρ:Hd}{T:Type}{f:T->List AV}{acc ys:List T}
theorem ad.Xm {a:Option Nat}{d:Option (Nat × Bool)}{k len:Nat}(m:bG α.tm d=some true) (h1:α.tm t=.gr k sz len) (p:S.get k=some (.arr sz (ρ.h (List.map f) acc) 0 ex)) (z:len=acc.length) (q:∀c,b.ev (bE α.tm t c)=b.ev α.tm)
  (g:b.ev α.tm=aR ρ f ex' ys) (s:∀x,(f x).length=sz) (u:∀x,(f x).all dh=true) (A:(len+ys.length)*by_<=35184372088832)
  (k0:ys=[]->ad P w0 rd n Q (.bc false l K) (bP a α (.gr k sz len)) S)
  (kk:∀j r,ys ≠ []->j=acc++ys->r=j.length->ad P w0 rd n Q (.bc false l K) (bP a α (.gr S.nx sz r)) ((S.set k none).new (.arr sz (ρ.h (List.map f) j) 0 false))):ad P w0 rd n Q (.bc false (⟨a,d,.append sz by_ (.t t) b⟩::l) K) α S:=by
 have hlen:(ρ.h (List.map f) acc).length=acc.length:=au;rw[bX]at g;cases ys with
 |nil =>
  exact ad.op (i:=⟨a,d,.append sz by_ (.t t) b⟩) m (λn o v=>CO v h1 p (by omega) q (by rw[g];exact jv)) (k0 rfl)
 |cons y ys =>
  have h:=kk _ _ (by simp) rfl rfl;have e:ρ.h (List.map f) acc++List.map f (y::ys)=ρ.h (List.map f) (acc++y::ys):=by rw[ρ.eq,ρ.eq,aM_]
  rw[<-e,show (acc++y::ys).length=len+(f y::List.map f ys).length by grind]at h;refine ad.op (i:=⟨a,d,.append sz by_ (.t t) b⟩) m (ae.im h1 p (by omega) q (by rw[g];exact jv) (by rw[g];exact jv) (λrow w=>?_) (by grind)) h;obtain⟨x,_,rfl⟩:=av_.1 (show row ∈ List.map f (y::ys) from w);exact⟨s x,u x⟩
end
theorem wF {o:Op}(h:res P.toTables o=some (.append sz by_ a b)):oQ o=false:=by grind[pG,oQ]
theorem a_.append {d:Dt}(f:b.ev α.tm=.sl ex more) (j:iC S d.F)
  (h:∀T,iC T d.F->(d.m=true->T.nx=S.nx)->∀e z,d_ P e=some z->ep P e=some sz->ku P e=some by_->Nat.blt 0 by_=true->pH P e (wJ r (eP T d.W d.m)) T more (a.ev α.tm)):a_ P w0 B (.append sz by_ a b) α S r d:=by
 refine a_.JE (λo C D=>by grind[zL,wF]) j λT k l o m=>?_;obtain⟨c,t,t2,u,v,e,E,z,rfl,n,p,q,rfl,rfl,s,w,g,i,x,y,A⟩:=pG m;rw[aW]at f;have h:=h T k l e z g i x A;rw[aW]at h;simp only[bu,n,oY,p,q,aC_,bg_,s,w,g,i,y];rw[f];exact bC.mk (a:=more) rfl ⟨rfl,h⟩
theorem a_.Ik (c:a.ev α.tm=.sl true rows) (d:b.ev α.tm=.sl ex []):a_ P w0 B (.append sz by_ a b) α S (.sl true rows) ⟨[],[],false⟩ :=
 a_.append d (λp f=>by grind) λT _ _ e z _ _ _ _=>by
  rw[c];exact⟨rfl,by rw[kB]⟩
theorem a_.Il {x:List AV}(d:a.ev α.tm=.sl true []) (f:b.ev α.tm=.sl ex (x::more)) (h3:∀row ∈ x::more,row.length=sz) (h4:(x::more).length*by_<=35184372088832) :
  a_ P w0 B (.append sz by_ a b) α S (.ob S.nx sz 0 (x::more).length none) ⟨[],[(S.nx,some (.arr sz (x::more) 0 false))],true⟩ :=
 a_.append f (λp c=>by grind) λT _ g e z k i j c=>by
  rw[d];simp only[pH,i,j,c];refine⟨(λ_ h=>by grind),h3,(by grind),?_,?_⟩
  ·grind
  ·rw[gj];simp only[er,<-g rfl]
   rfl
theorem a_.im {k len:Nat}{x:List AV}(a:α.tm t=.gr k sz len) (D:S.get k=some (.arr sz rows 0 ex)) (i:len=rows.length) (E:∀c,b.ev (bE α.tm t c)=b.ev α.tm) (d:b.ev α.tm=.sl ex' (x::more))
  (h3:∀row ∈ x::more,row.length=sz/\row.all dh=true) (h4:(len+(x::more).length)*by_<=35184372088832) :
  a_ P w0 B (.append sz by_ (.t t) b) α S (.gr S.nx sz (len+(x::more).length)) ⟨[(k,.arr sz rows 0 ex)],[(S.nx,some (.arr sz (rows++x::more) 0 false)),(k,none)],true⟩:=by
 intro n o f;refine⟨λj=>(by grind[zL,wF]),(show iC S _ from λp j=>by grind),λT _ l m=>?_⟩;have e:∀y:QO,(y=.t t\/y=b)->y.ev (α.only (dH o)).tm=y.ev α.tm:=by
  obtain⟨c,t1,t2,u,v,e,F,z,r,w,G,h3,h4,H,_⟩:=pG f;intro y I;have:∃q ∈ [u,v],y=qo q:=by grind
  obtain⟨q,J,rfl⟩:=this;rw[aW,aW];refine gm λt A=>gw ?_;rw[r,<-A];have:q ∈ c.args:=de_.1 (by grind);show q ∈ c.operands;simp[Call.operands,this,w]
 have C:(α.only (dH o)).tm t=.gr k sz len:=(e (.t t) (.inl rfl)).trans a;have K:=e b (.inr rfl);have key:∀c,b.ev (bE (α.only (dH o)).tm t c)=b.ev (α.only (dH o)).tm:=by
  intro c;cases b with
  |t s =>
   by_cases g:s=t
   ·exfalso;subst g;rw[show (QO.t s).ev α.tm=α.tm s from rfl,a]at d;cases d
   ·exact aO _ _ g
  |_=>rfl
 have h:=LB (P:=P) (w0:=w0) (n:=n) (α:=α.only (dH o)) (S:=T) (k:=k) (sz:=sz) (by_:=by_) (len:=len) (ex:=ex) (b:=b) (rows:=rows) (more:=more) (x:=x) f C (l (k,.arr sz rows 0 ex) (by simp)) i key (by grind[jv]) (by grind[jv]) h3 h4;rw[gj,<-m rfl];exact h
theorem a_.aie {k len:Nat}(a:α.tm t=.gr k sz len) (x:S.get k=some (.arr sz rows 0 ex)) (h:len=rows.length) (A:∀c,b.ev (bE α.tm t c)=b.ev α.tm) (d:b.ev α.tm=.sl ex' []) :
  a_ P w0 B (.append sz by_ (.t t) b) α S (.gr k sz len) ⟨[(k,.arr sz rows 0 ex)],[],false⟩:=by
 intro n o f;refine⟨λi=>(by grind[zL,wF]),(show iC S _ from λp i=>by grind),λT _ j C=>?_⟩;have e:∀y:QO,(y=.t t\/y=b)->y.ev (α.only (dH o)).tm=y.ev α.tm:=by
  obtain⟨c,t1,t2,u,v,e,D,z,l,m,E,F,G,H,_⟩:=pG f;intro y I;have:∃q ∈ [u,v],y=qo q:=by grind
  obtain⟨q,J,rfl⟩:=this;rw[aW,aW];refine gm λt r=>gw ?_;rw[l,<-r];have:q ∈ c.args:=de_.1 (by grind);show q ∈ c.operands;simp[Call.operands,this,m]
 have w:(α.only (dH o)).tm t=.gr k sz len:=(e (.t t) (.inl rfl)).trans a;have K:=e b (.inr rfl);have key:∀c,b.ev (bE (α.only (dH o)).tm t c)=b.ev (α.only (dH o)).tm:=by
  intro c;cases b with
  |t s =>
   by_cases g:s=t
   ·exfalso;subst g;rw[show (QO.t s).ev α.tm=α.tm s from rfl,a]at d;cases d
   ·exact aO _ _ g
  |_=>rfl
 rw[show eP T [] false=T from kB];exact CO f w (j (k,.arr sz rows 0 ex) (by simp)) h key (by grind[jv])
theorem a_.aif {f:QO}{aZ9:List QO}{g:FuncId}{args₀:List AV}{r₀:AV}{so':List (Nat × Ob)}{ob:Ob}(E:aG P w0 g args (aq [] 0) r (aq so' 1)) (h:eV (f.ev α.tm) (aZ9.map (·.ev α.tm))=some (g,args₀)) (G:wM (aU []) 0 args₀ args)
  (l:Rb (dz (aU []) 0 S.nx) r r₀) (s:gT (dz (aU []) 0 S.nx) so' [(S.nx,some ob)]) (H:za so'=true):a_ P w0 B (.call f aZ9) α S r₀ ⟨[],[(S.nx,some ob)],true⟩:=by
 intro n o x;obtain⟨c,u,ho,y,I,d⟩:=lV x;refine⟨λJ=>(by grind[ql,oQ]),(show iC S [] from λp J=>by grind),λT _ _ K=>?_⟩;have e:T.nx=S.nx:=K rfl;have z:∀q ∈ (.call c:Op).operands,(α.only (dH o)).ev q=α.ev q:=λq L=>gm λt ht=>gw (by grind);have M:eV (f.ev (α.only (dH o)).tm) (aZ9.map (·.ev (α.only (dH o)).tm))=some (g,args₀):=by
  rw[<-h,I,d,aW,aW,jt,jt,z u (show u ∈ c.operands by simp[Call.operands,y])];congr 1;exact aF_ λq L=>z q (show q ∈ c.operands by simp[Call.operands,y];exact .inr (by grind))
 rw[<-e]at l s ⊢;intro F O A C a w Q R U V W X
 let i:af:=⟨λk=>if k < T.nx then T.get k else none,T.nx⟩
 have Y:St w0 A C i w:=V.forget (ac_ _) λj p b _=>by grind
 have Z:=ae.mY (P:=P) (w0:=w0) (α:=α.only (dH o)) (T:=i) (m:=[]) (N:=0) (N':=1) (so:=[]) (so':=so') (to:=[(T.nx,some ob)]) (f:=f) (aZ9:=aZ9) E M G l rfl rfl trivial s rfl (λk p hk=>by grind) (.inr H) n o x;refine Z F O A C a w Q R U Y W λv w' g' k1 D k3=>X v w' g' k1 ?_ k3;rw[gj];refine D.forget (ac_ _) λj p b aT=>?_;have vi:j < T.nx+1:=D.al j aT;have b:bE T.get T.nx (some ob) j=some p:=b;show bE i.get T.nx (some ob) j=some p;by_cases ej:j=T.nx
 ·grind[aJ]
 ·rw[aO _ _ ej]at b ⊢;show (if j < T.nx then T.get j else none)=some p;rw[if_pos (by omega)];exact b
end
def pb (c:Value->Bool):List (Value × AV)->Option Nat
 |[]=>none
 |p::es=>if c p.1 then some 0 else (pb c es).map (·+1)
section
variable {P:Program}{w0:World}{n:Nat}{o:Oper}{α:AA}{S S':af}{r:AV}
structure IK (P:Program) (kt:Nat) (v:Value) (es:List (Value × AV)) (c:Value->Bool):Prop where
 chk:∀b w,(Instr.checkKey b 10000 kt v).run P w=.ok () w
 str:∃fs,P.underlying kt=some (.struct fs)
 eq:∀p ∈ es,∀w,(Op.equal kt v p.1).run P w=.ok (c p.1) w
theorem P_ {c:Value->Bool}:∀{es:List (Value × AV)}{j:Nat},pb c es=some j->∃k a,es[j]?=some (k,a)/\c k=true
 |[],j,h=>by cases h
 |p::es,j,h=>by
  rw[pb]at h;split at h
  ·grind
  ·cases b:pb c es with
   |none=>rw[b]at h;cases h
   |some e =>
    rw[b]at h;obtain rfl:=oJ_ h;obtain⟨k,a,f,d⟩:=P_ b;exact⟨k,a,by grind,d⟩
theorem JF {kt:Nat}{v:Value}{c:Value->Bool}{w:World}:∀{es:List (Value × AV)}{L:List MapEntry}{o:Nat},(∀p ∈ es,∀w,(Op.equal kt v p.1).run P w=.ok (c p.1) w)->L.length=es.length ->
  (∀(j:Nat) (k:Value) (a:AV) (e:MapEntry),es[j]?=some (k,a)->L[j]?=some e->e.key=k) ->
  (Instr.findAsking kt v L o).run P w=.ok (match pb c es with|some j=>(L[j]?).map λe=>(j+o,e.val)|none=>none) w
 |[],[],o,_,_,_=>rfl
 |p::es,e::L,o,d,f,h=>by
  have b:e.key=p.1:=h 0 p.1 p.2 e rfl rfl;have g:=JF (w:=w) (es:=es) (L:=L) (o:=o+1) (λq l=>d q (by grind)) (by grind) (λj k a i m n=>h (j+1) k a i (by grind) (by grind));simp only[Instr.findAsking,Sem.run_bind,b,d p (by simp) w,Result.andThen_ok,pb];cases r:c p.1 with
  |true=>simp[Sem.run_pure]
  |false =>
   simp only[if_false,bn_,g];congr 1;cases pb c es with
   |none=>rfl
   |some j=>simp only[aE_,cx_];congr 1;funext x;congr 1;omega
 |[],_::_,_,_,f,_=>by grind
 |_::_,[],_,_,f,_=>by grind
theorem IK.find (h:IK P kt v es c) {g:Gh}{w:World}{entries:Array MapEntry}(m:entries.size=es.length) (n:∀(i:Nat) (k:Value) (a:AV),es[i]?=some (k,a)->∃e:MapEntry,entries[i]?=some e/\e.key=k/\aN g w a e.val) :
  (Instr.findKey kt v entries.toList).run P w=.ok (match pb c es with|some j=>(entries[j]?).map λe=>(j,e.val)|none=>none) w:=by
 obtain⟨f,l⟩:=h.str;have b:=JF (P:=P) (w:=w) (es:=es) (L:=entries.toList) (o:=0) h.eq (by grind) (λj k a e p q=>by grind);simp only[bd_,bs_]at b;simp only[Instr.findKey,Sem.run_bind,run_underlying l,Result.andThen_ok];cases d:entries.toList with
 |nil =>
  rw[d]at b;simp only[Instr.findNow,Sem.run_pure];simp only[Instr.findAsking,Sem.run_pure]at b;exact b
 |cons e L =>
  rw[<-d];have:Instr.findNow (.struct f) v entries.toList 0=none:=by rw[d];simp[Instr.findNow,Instr.sameNow]
  rw[this];exact b
def lC (c:Value->Bool) (es:List (Value × AV)):Option AV:=match pb c es with|some j=>(es[j]?).map (·.2)|none=>none
theorem Uk {o:Op}{z:AV}{c:Bool}(h:res P.toTables o=some (.lC kt z c x i)):∃t u v b a,o=.lookup t u v c/\x=qo u/\i=qo v/\P.underlying t=some (.map kt b)/\d_ P b=some a/\z=lift a:=by
 cases o with
 |lookup t u v j =>
  simp only[res,cF,ky]at h;split at h
  ·rename_i f b e;split at h
   ·grind
   ·rename_i _ _ a g d;simp only[oI_,mz.lC.injEq]at h;obtain⟨rfl,rfl,rfl,rfl,rfl⟩:=h;exact⟨_,_,_,_,_,rfl,rfl,rfl,e,d,rfl⟩
   ·rename_i _ a g d;simp only[oI_,mz.lC.injEq]at h;obtain⟨rfl,rfl,rfl,rfl,rfl⟩:=h;exact⟨_,_,_,_,_,rfl,rfl,rfl,e,d,rfl⟩
   all_goals cases h
  ·grind
 |_ =>
  simp only[res]at h
  repeat' split at h
  all_goals cases h
theorem Ul {o:Op}(h:res P.toTables o=some (.yq kt x i b)):∃t u v y a,o=.mapUpdate t u v y/\x=qo u/\i=qo v/\b=qo y/\P.underlying t=some (.map kt a):=by
 cases o with
 |mapUpdate t u v y =>
  simp only[res,cF]at h;split at h
  ·grind
  ·grind
 |_ =>
  simp only[res]at h
  repeat' split at h
  all_goals cases h
theorem Um {t kt r:TypeId}{x i:Operand}{k:Nat}{z:Value}{m:AV}{cm:Bool}(s:o.op=.lookup t x i cm) (u:P.underlying t=some (.map kt r)) (J:d_ P r=some z)
  (d:α.ev x=.mp k) (K:S.get k=some (.mp es)) (hi:toV (α.ev i)=some v) (l:IK P kt v es c):a8 P w0 n o α S (match lC c es with|some a=>(if cm then .aL [a,.v (.bool true)] else a)|none=>(if cm then .aL [lift z,.v (.bool false)] else lift z)) S:=by
 refine a8.quiet λA g q w L B=>?_;have C:=B.ev x;rw[d]at C;have D:=zB (B.ev i) hi;obtain⟨E,M⟩:=sI C;obtain⟨_,_,entries,clock,F,N,G⟩:=L.cT k _ K M;have f:=l.find N G;have fin:∀(v:Value) (b:Bool) (a:AV),aN g w a v->aN g w (if cm then .aL [a,.v (.bool b)] else a) (if cm then .tuple #[v,.bool b] else v):=by
  intro v b a H;cases cm with
  |false=>exact H
  |true =>
   refine .aL rfl λi y x h d=>?_
   match i with
   |0=>simp at h d;subst h d;exact H
   |1=>simp at h d;subst h d;exact .v
   |i+2=>simp at h
 unfold lC;cases p:pb c es with
 |none =>
  rw[p]at f;refine⟨_,?_,fin z false (lift z) (wZ z)⟩;simp only[execOp,s,E,D,Instr.lookup,Sem.run_bind,run_underlying u,Result.andThen_ok,gV F,Sem.run_pure,l.chk,f,o8 J]
 |some j =>
  obtain⟨Q,a,I,_⟩:=P_ p;obtain⟨e,q1,R,O⟩:=G j _ a I;rw[p]at f;simp only[q1,aE_]at f;simp only[I,aE_];refine⟨_,?_,fin e.val true a O⟩;simp only[execOp,s,E,D,Instr.lookup,Sem.run_bind,run_underlying u,Result.andThen_ok,gV F,Sem.run_pure,l.chk,f]
theorem ae.lC {z:AV}{cm:Bool}{k:Nat}(b:x.ev α.tm=.mp k) (d:S.get k=some (.mp es)) (hi:toV (i.ev α.tm)=some v) (e:IK P kt v es c) :
  ae P w0 false (.lC kt z cm x i) α S (match lC c es with|some a=>(if cm then .aL [a,.v (.bool true)] else a)|none=>(if cm then .aL [z,.v (.bool false)] else z)) S:=ae.run λn o f=>by
 obtain⟨t,u,y,l,p,g,rfl,rfl,h,j,rfl⟩:=Uk f;rw[aW]at b hi;exact Um (m:=.u) g h j b d hi e
theorem ae.yq {k:Nat}{a:AV}(j:x.ev α.tm=.mp k) (l:S.get k=some (.mp es)) (hi:toV (i.ev α.tm)=some v) (m:IK P kt v es c) (F:pb c es=none) (p:b.ev α.tm=a) :
  ae P w0 false (.yq kt x i b) α S (.v undef) (S.set k (some (.mp (es++[(v,a)])))):=ae.run λn o G=>by
 obtain⟨t,u,y,r,U,H,rfl,rfl,rfl,I⟩:=Ul G;rw[aW]at j hi p;intro A g q w s f;have z:=f.ev u;have h:=f.ev r;rw[j]at z;rw[p]at h;have J:=zB (f.ev y) hi;obtain⟨K,B⟩:=sI z;obtain⟨x,C⟩:∃x,q.eval r=x:=⟨_,rfl⟩;rw[C]at h;obtain⟨_,_,entries,clock,D,L,M⟩:=s.cT k _ l B;have E:=m.find L M;rw[F]at E;obtain⟨N,q1,O,Q⟩:=s.CQ (P:=P) l B D (entries':=entries.push { key:=v,val:=x,born:=clock }) (clock':=clock+1) (es':=es++[(v,a)]) (by grind) (λi key V hi=>by
  by_cases c:i < es.length
  ·grind
  ·rw[be_ (by omega)]at hi;have T:i=es.length:=by grind
   subst T;simp at hi;obtain⟨rfl,rfl⟩:=hi;exact⟨{ key:=v,val:=x,born:=clock },by grind,rfl,h⟩)
 refine⟨undef,N,g,.inr ⟨?_,rfl⟩,.v,O,Q⟩;simp only[execOp,H,K,J,C,Instr.mapUpdate,Sem.run_bind,run_underlying I,Result.andThen_ok,gV D,m.chk,E,q1,Sem.run_pure]
end
section
variable {P:Program}{w0:World}{rd:Bool}{n B N:Nat}{α:AA}{S:af}{Q:Exit->AA->af->Prop}{K:List f_}{ds:List DE}{ch:List PanicEntry}
theorem ad.vt {σ:Type}{st:σ->List (Nat × AV)}{so:σ->List (Nat × Ob)}{I:σ->Prop}{μ:σ->Nat}{k:Nat}(h:ad P w0 rd n Q (.out (.panic ch) K) α S):ad P w0 rd n (Qa P w0 rd n B N st ds so I μ Q K k) (.out (.panic ch) []) α S:=h
end
section
variable {P:Program}{w0:World}{r r':AV}{S':af}
theorem ah.zM {f:FuncId}(h1:aG P w0 f args af.none_ r' S') (h2:aP S' r' r) (z:Pure r):ah P w0 f args r:=by
 refine⟨z,af.none_,h1.1,λF m A g c w C u D=>(h1.2 F m A g c w C u D).mono ?_⟩;rintro e E ⟨v,l,rfl,G,d,n⟩;have a:∀b q,(l.still S').fz b q->g.fz b q\/A b:=by
  rintro b q (i|⟨k,sz,rows,fz,ex,a,x,rfl,i⟩)
  ·exact n.kr b q i
  ·exact .inr (d.cT k _ a x).1
 have H:=h2.rep d G;obtain⟨t,s⟩:∃t:Gh,t=⟨g.ob,g.cp,λ_=>False,(l.still S').fz,g.fo⟩:=⟨_,rfl⟩;have I:∀k,¬ g.al k:=λk a=>absurd (u.al k a) (Nat.not_lt_zero k);have B:Later g w t E:=by
  rw[s];exact⟨λk a=>I k a,λ_ _=>rfl,λ_ _=>rfl,λb q i=>.inl (n.fz b q i),n.cell⟩
 refine⟨v,t,rfl,?_,?_,{ B with size:=n.size,aM:=n.aM,kr:=by rw[s];exact a }⟩
 ·rw[s];exact aN.pure (g:=l.still S') (g':=⟨g.ob,g.cp,λ_=>False,(l.still S').fz,g.fo⟩) (λ_ _ h=>h) (λ_ _ _=>rfl) H z
 ·have e0:∀k o,¬ af.none_.get k=some o:=λk o h=>by simp[af.none_]at h
  refine⟨d.base,d.up,d.lo,λk a=>?_,λk o a=>absurd a (e0 k o),λj k o p y=>absurd y (e0 j o),?_,λb q K=>B.fz b q (u.rp b q K),λk J a=>absurd a (e0 k _),λk J j o a=>absurd a (e0 k _),λj k J N y=>absurd y (e0 j _)⟩
  ·rw[s]at a;exact a.elim
  ·rw[s];rintro b q (i|⟨k,sz,rows,fz,ex,a,x,rfl,i⟩)
   ·exact d.dw b q i
   ·exact (d.cT k _ a x).2.1
end
end Go.Proofs.YtbpabjmnhggajaaGreat
