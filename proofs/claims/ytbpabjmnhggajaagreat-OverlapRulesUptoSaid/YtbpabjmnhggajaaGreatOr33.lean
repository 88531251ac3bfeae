import Derived.Laws.Cover3
import Derived.Test.YtbpabjmnhggajaaGreatOr32
namespace Go.Proofs.YtbpabjmnhggajaaGreat
set_option linter.all false
set_option maxRecDepth 100000
open Go.RowKit
variable {b:Bool}{m sz:Nat}{x:QO}
section
attribute [local irreducible] ah aG ae ad
def am8:FQ 88 Tryz.f88:=aF Tryz.func88 Tryz.call88
def g88:List Nat:=[1,2,0]
def am9:FQ 89 Tryz.f89:=aF Tryz.func89 Tryz.call89
def g89:List Nat:=[1,2,0]
def am_:FQ 22 Tryz.f22:=aF Tryz.func22 Tryz.call22
def g22:List Nat:=[3,1,2,0]
def aiU:FQ 152 Tryz.f152:=aF Tryz.func152 Tryz.call152
def tX:List Nat:=[5,4,3,2,0,1,11]
def ana:FQ 90 Tryz.f90:=aF Tryz.func90 Tryz.call90
def oT:List Nat:=[5,3,7,1,4,6,2,0,13,28]
section
variable {w0:World}{ρ:Hd}
theorem En (r:Rl) (h:r.aM.length+r.rem.length<=549755813888):ah Tryz.prog w0 88 [rl ρ r] (cL ρ (r.aM++r.rem)):=by
 obtain⟨n,a,c,g,b,v⟩:=r;dsimp only at h ⊢;obtain⟨R,d⟩:∃R,R=a++c:=⟨_,rfl⟩;rw[<-d];refine st am8 g88 ((dk _)) ?_;refine ad.KZ (f:=atR ρ) (ys:=a) rfl rfl rfl (λ_=>rfl) (by omega) λacc len j hlen=>?_;refine gq g88 ?_;refine ad.Sc (f:=atR ρ) (ys:=c) rfl rfl rfl hlen (λ_=>rfl) rfl (λ_=>rfl) (λ_=>rfl) (by grind) λe k l i=>?_;refine gq g88 ?_;refine fq ?_;obtain rfl:e=R:=by grind
 exact aP.grow rfl i
theorem IZ (r:Rl) (h:r.guard.length+r.body.length<=549755813888):ah Tryz.prog w0 89 [rl ρ r] (cE ρ (r.guard++r.body)):=by
 obtain⟨n,e,i,g,b,v⟩:=r;dsimp only at h ⊢;obtain⟨R,a⟩:∃R,R=g++b:=⟨_,rfl⟩;rw[<-a];refine st am9 g89 ((dM _)) ?_;refine ad.KZ (f:=jf ρ) (ys:=g) rfl rfl rfl (λ_=>rfl) (by omega) λacc len j hlen=>?_;refine gq g89 ?_;refine ad.Sc (f:=jf ρ) (ys:=b) rfl rfl rfl hlen (λ_=>rfl) rfl (λ_=>rfl) (λ_=>rfl) (by grind) λc k l d=>?_;refine gq g89 ?_;refine fq ?_;obtain rfl:c=R:=by grind
 exact aP.grow rfl d
theorem yE (r:Rl) (h:r.aM.length+r.rem.length<=549755813888):ah Tryz.prog w0 22 [rl ρ r] (cL ρ (r.aM++r.rem)):=by
 obtain⟨n,a,c,g,b,v⟩:=r;dsimp only at h ⊢;obtain⟨R,d⟩:∃R,R=a++c:=⟨_,rfl⟩;rw[<-d];refine st am_ g22 ((dk _)) ?_;refine ad.qF (f:=atR ρ) (ys:=a) rfl rfl rfl (λ_=>rfl) (by omega) λacc len j hlen=>?_;refine gq g22 ?_;refine ad.qm (f:=atR ρ) (ys:=c) rfl rfl rfl hlen (λ_=>rfl) rfl (λ_=>rfl) (λ_=>rfl) (by grind) λe k l i=>?_;refine gq g22 ?_;refine fq ?_;obtain rfl:e=R:=by grind
 exact aP.grow rfl i
end
end
section
attribute [local irreducible] ah aG ae ad
def FnS (P:Program) (w0:World) (so:List (Nat × Ob)) (N:Nat) (F:AV) (xs:List AV) (b:Bool):Prop:=∃gid args,eV F xs=some (gid,args)/\(∀a ∈ args,ec N a)/\aG P w0 gid args (aq so N) (.v (.bool b)) (aq so N)
def Qz (N:Nat) (o:Ob):Prop:=h_ N o/\∀J,o ≠ .fo J
section
variable {P:Program}{w0:World}{dr:Bool}{N:Nat}{so:List (Nat × Ob)}{T:af}{α:AA}
theorem ae.fnS {f:QO}{a:List QO}{F:AV}{l:List AV}(h:FnS P w0 so N F l b) (g:f.ev α.tm=F) (i:a.map (·.ev α.tm)=l) (c:C3 so N T):ae P w0 dr (.call f a) α T (.v (.bool b)) T:=by
 obtain⟨gid,args,j,d,e⟩:=h;exact ae.Z7 e (by grind) c d .v
theorem ab1 {a b c:Ob}(h0:T.get 0=some a) (h1:T.get 1=some b) (h2:T.get 2=some c) (f:Nat.ble 3 T.nx=true) (k0:Qz 3 a) (d:Qz 3 b) (e:Qz 3 c):C3 [(0,a),(1,b),(2,c)] 3 T:=by
 refine⟨aq_ f,λj o h=>?_,λj g=>?_⟩
 ·match j,h with
  |0,h=>obtain rfl:=oJ_ h;exact⟨by decide,h0,k0.1,k0.2⟩
  |1,h=>obtain rfl:=oJ_ h;exact⟨by decide,h1,d.1,d.2⟩
  |2,h=>obtain rfl:=oJ_ h;exact⟨by decide,h2,e.1,e.2⟩
  |j+3,h=>cases h
 ·match j,g with
  |0,_=>exact⟨_,rfl⟩
  |1,_=>exact⟨_,rfl⟩
  |2,_=>exact⟨_,rfl⟩
end
section
variable {w0:World}{ρ:Hd}
theorem RR {b c d:Ob}(k0:Qz 3 b) (e:Qz 3 c) (f:Qz 3 d) (p:Int->Bool) (l:List Int) (gid:FuncId) (fs cs:List AV) (y:l.length<=1099511627776) (n:ec 3 (.fn (.func gid) fs cs)) (h:∀x ∈ l,FnS Tryz.prog w0 [(0,b),(1,c),(2,d)] 3 (.fn (.func gid) fs cs) [iv x] (p x)) :
  aG Tryz.prog w0 226 [aR ρ aI false l,.fn (.func gid) fs cs] (aq [(0,b),(1,c),(2,d)] 3) (iv (ew p l 0)) (aq [(0,b),(1,c),(2,d)] 3):=by
 obtain⟨R,o⟩:∃R,R=ew p l 0:=⟨_,rfl⟩;rw[<-o];refine sc 3 3 aix ?_;refine gq kZ ?_
 repeat' (first
  |refine bq (λa=>?_) (λa=>?_)<;>(try simp only[bL]at a)<;>(first|exact absurd a (by decide)|refine gq kZ ?_)
  |refine bS λm g=>?_;(try rw[au]at g);refine gq kZ ?_
  |refine cw λ_ _=>?_;refine gq kZ ?_
  |refine ll λ_ _=>?_;refine gq kZ ?_
  |refine ad.str rfl (ae.cat rfl rfl (by assumption)) λ_ _=>?_;refine gq kZ ?_
  |refine ad.ao ?_;refine gq kZ ?_
  |refine ad.bh ?_;refine gq kZ ?_
  |(refine fq ?_))
 refine ad.aK (σ:=Int) 3 3 [] (λi=>[(0,aR ρ aI false l),(1,.fn (.func gid) fs cs),(7,.v (.int .i64 m)),(8,.v (.int .i64 i))]) [] (λ_=>[(0,b),(1,c),(2,d)])
  (λi=>∃k:Nat,i=k/\k<=l.length/\R=ew p (l.drop k) k) (λi=>l.length - i.toNat) 0 ⟨0,rfl,by simp,by grind⟩ rfl ⟨⟨.aC rfl (Pure.bm (bt _)),.aC rfl n,.aC rfl .v,.aC rfl .v,trivial⟩,rfl,⟨.inl ⟨_,rfl,.same k0.1⟩,.inl ⟨_,rfl,.same e.1⟩,.inl ⟨_,rfl,.same f.1⟩,trivial⟩,rfl,rfl,rfl⟩ ?_
 rintro i ⟨k,t,z,j⟩;clear o;refine gq kZ ?_;by_cases u:k < l.length
 ·obtain⟨x,q,v⟩:=aD u;rw[v,ew]at j;have r:=h x (bM q);obtain⟨B,w⟩:∃B,B=p x:=⟨_,rfl⟩;rw[<-w]at j r
  repeat' (first
   |refine ad.op rfl (ae.ind rfl rfl (aB (l:=l) t q) (aA λ_=>rfl)) ?_;refine gq kZ ?_
   |refine ad.bif rfl (ae.fnS r rfl rfl (ab1 rfl rfl rfl rfl k0 e f)) (λ_=>?_) (λ_=>?_)<;>refine gq kZ ?_
   |refine bq (λa=>?_) (λa=>?_)<;>(try simp only[bL]at a)<;>(first|exact absurd a (by decide)|refine gq kZ ?_)
   |refine bS λm g=>?_;(try rw[au]at g);refine gq kZ ?_
   |refine cw λ_ _=>?_;refine gq kZ ?_
   |refine ll λ_ _=>?_;refine gq kZ ?_
   |refine ad.str rfl (ae.cat rfl rfl (by assumption)) λ_ _=>?_;refine gq kZ ?_
   |refine ad.ao ?_;refine gq kZ ?_
   |refine ad.bh ?_;refine gq kZ ?_
   |(refine fq ?_))
  all_goals first
   |exfalso;omega
   |rw[if_pos (by grind)]at j;rw[show R=i by omega];exact⟨[],.aC .v,⟨.inl ⟨_,rfl,.same k0.1⟩,.inl ⟨_,rfl,.same e.1⟩,.inl ⟨_,rfl,.same f.1⟩,trivial⟩,rfl⟩
   |(rw[if_neg (by grind)]at j
     refine ad.az (σ:=Int) _ [] ?_ ?_ ⟨⟨.aC rfl (Pure.bm (bt _)),.aC rfl n,.aC rfl .v,.aC rfl .v,trivial⟩,rfl,⟨.inl ⟨_,rfl,.same k0.1⟩,.inl ⟨_,rfl,.same e.1⟩,.inl ⟨_,rfl,.same f.1⟩,trivial⟩,rfl,rfl,rfl⟩
     ·grind
     ·omega)
 ·skip
  repeat' (first
   |refine bq (λa=>?_) (λa=>?_)<;>(try simp only[bL]at a)<;>(first|exact absurd a (by decide)|refine gq kZ ?_)
   |refine bS λm g=>?_;(try rw[au]at g);refine gq kZ ?_
   |refine cw λ_ _=>?_;refine gq kZ ?_
   |refine ll λ_ _=>?_;refine gq kZ ?_
   |refine ad.str rfl (ae.cat rfl rfl (by assumption)) λ_ _=>?_;refine gq kZ ?_
   |refine ad.ao ?_;refine gq kZ ?_
   |refine ad.bh ?_;refine gq kZ ?_
   |(refine fq ?_))
  all_goals first
   |exfalso;omega
   |rw[show R=-1 by rw[j,ak_ (by omega)];rfl];exact⟨[],.aC .v,⟨.inl ⟨_,rfl,.same k0.1⟩,.inl ⟨_,rfl,.same e.1⟩,.inl ⟨_,rfl,.same f.1⟩,trivial⟩,rfl⟩
end
end
section
attribute [local irreducible] ah aG ae ad
end
section
attribute [local irreducible] ah aG ae ad
end
section
attribute [local irreducible] ah aG ae ad
end
section
attribute [local irreducible] ah aG ae ad
end
section
attribute [local irreducible] ah aG ae ad
structure sok (s:EJ):Prop where
 gl:s.goals.length<=1099511627776
 st:s.store.length<=1099511627776
 bl:s.binds.length<=1099511627776
 fl:s.su.length<=1099511627776
 kl:s.known.length<=1099511627776
 gx:∀x ∈ s.goals,JP x
 sx:∀x ∈ s.store,x.ok
 bx:∀x ∈ s.binds,x.ok
 fx:∀x ∈ s.su,x.ok
 kx:∀x ∈ s.known,JP x
end
section
variable {P:Program}{w0:World}{α:AA}{S:af}
theorem XU {v:Value}(h:lift v=.sl true []):v=.slice none 0 0:=by
 have a:∀v,cK v=.sl true []->v=.slice none 0 0:=by grind[cK]
 cases v with
 |agg b=>cases h
 |_=>exact a _ h
theorem afb {u:Operand}(h:.c (.sl true [])=qo u):u=.const (.slice none 0 0):=by
 cases u with
 |const v =>
  injection h with h;rw[XU h.symm]
 |_=>cases h
theorem QA {o:Op}{op:BinOp}(h:res P.toTables o=some (.bin op .s x (.c (.sl true [])))):∃t u s e,o=.binOp op t u (.const (.slice none 0 0)) s/\x=qo u/\P.underlying t=some (.slice e):=by
 cases o with
 |binOp a t u v s =>
  simp only[res,cF]at h;split at h
  ·grind
  ·rename_i e b;simp only[oI_,mz.bin.injEq]at h;obtain⟨rfl,_,rfl,c⟩:=h;rw[afb c.symm];exact⟨_,_,_,_,rfl,rfl,b⟩
  ·grind
  ·grind
  ·grind
  ·grind
 |_ =>
  simp only[res]at h
  repeat' split at h
  all_goals cases h
def Df:AV->Option Bool
 |.sl _ (_::_)=>some false
 |.ob ..=>some false
 |.gr _ _ (_+1)=>some false
 |.v (.slice A _ _)=>some A.isNone
 |_=>none
theorem XV {g:Gh}{w:World}{a:AV}{x:Value}(h:Df a=some b) (d:aN g w a x):∃A l c,x=.slice A l c/\A.isNone=b:=by
 unfold Df at h;split at h
 ·cases d with
  |sl=>obtain rfl:=oJ_ h;exact⟨_,_,_,rfl,rfl⟩
 ·cases d with
  |ob=>obtain rfl:=oJ_ h;exact⟨_,_,_,rfl,rfl⟩
 ·cases d with
  |gr=>obtain rfl:=oJ_ h;exact⟨_,_,_,rfl,rfl⟩
 ·cases d with
  |v=>obtain rfl:=oJ_ h;exact⟨_,_,_,rfl,rfl⟩
 ·grind
def Sz (op:BinOp) (b:Bool):Option Bool:=match op with
 |.eql=>some b
 |.neq=>some (!b)
 |_=>none
theorem QB {op:BinOp}{d:Bool}{n:Nat}{o:Oper}(k:res P.toTables o.op=some (.bin op .s x (.c (.sl true [])))) (β:AA) (a:Df (x.ev β.tm)=some b) (m:Sz op b=some d):iY P w0 n o β S (.v (.bool d)) S:=by
 obtain⟨t,u,s,e,f,rfl,h⟩:=QA k;rw[aW]at a;refine a8.ops (a8.quiet λA g c w q p=>⟨.bool d,?_,.v⟩) λc e=>by grind
 obtain⟨B,l,cc,i,rfl⟩:=XV a (p.ev u);have j:c.eval (.const (.slice none 0 0))=.slice none 0 0:=rfl;cases op<;>cases m
 ·simp[execOp,f,i,eqGuard,j,binOp,run_equal_slice_nil w t e B l cc h]
 ·simp[execOp,f,i,eqGuard,j,binOp,run_equal_slice_nil w t e B l cc h]
theorem ae.nil {dr:Bool}{op:BinOp}{d:Bool}(g:Df (x.ev α.tm)=some b) (c:Sz op b=some d):ae P w0 dr (.bin op .s x (.c (.sl true []))) α S (.v (.bool d)) S:=by
 cases dr with
 |false=>exactλn o a=>QB a α g c
 |true =>
  intro n o a;obtain⟨t,u,s,e,h,i,_⟩:=QA a;have key:∀z ∈ o.op.operands,(α.only (dH o)).ev z=α.ev z:=λz j=>gm λt e=>gw (by grind);have k:(α.only (dH o)).ev u=α.ev u:=key u (by rw[h];simp[Op.operands]);have f:∀T,iY P w0 n o (α.only (dH o)) T (.v (.bool d)) T:=λT=>QB a _ (by grind[aW]) c;exact⟨f S,λ_=>⟨rfl,f⟩,λ_=>rfl⟩
end
def nu {T:Type}(f:T->List AV) (z:List AV) (m:Nat) (l:List T):List (List AV):=l.map f++List.replicate (m - l.length) z
section
variable {P:Program}{w0:World}{α:AA}{S:af}{rd:Bool}{n:Nat}{Q:Exit->AA->af->Prop}{l:List QI}{K:List f_}{ρ:Hd}{T:Type}{f:T->List AV}{z:List AV}{dd:Option Nat}{gg:Option (Nat × Bool)}{acc ys:List T}
theorem XW {l:List T}(h:l.length<=m):(nu f z m l).length=m:=by grind[nu]
theorem ad.anb {by_:Nat}{a b:QO}{i:Int}(ρ:Hd) (f:T->List AV) (c:bG α.tm gg=some true) (h1:a.ev α.tm=.v (.int .i64 0)) (h2:b.ev α.tm=.v (.int .i64 i)) (hi:i=m) (d:z.length=sz) (e:m*by_<=35184372088832) (h6:m<=9223372036854775807)
  (kk:∀acc:List T,acc=[]->ad P w0 rd n Q (.bc false l K) (bP dd α (.ob S.nx sz 0 0 none)) (S.new (.arr sz (ρ.h (nu f z m) acc) 0 true))):ad P w0 rd n Q (.bc false (⟨dd,gg,.pI z by_ a b⟩::l) K) α S:=by
 have h:=kk [] rfl;rw[ρ.eq]at h;subst d hi;exact ad.op (i:=⟨dd,gg,.pI z by_ a b⟩) c (by simpa[nu] using ae.aeQ (P:=P) (w0:=w0) (z:=z) (by_:=by_) (S:=S) h1 h2 (by omega) (by omega) (by omega) (by omega)) (by grind[nu])
theorem afc {α:Type}{g:Nat->α}{k:Nat}{o:α}(h:g k=o):bE g k o=g:=by grind[aJ,aO]
theorem ad.afd {by_ k len:Nat}{ex ex':Bool}{a b:QO}(p:bG α.tm gg=some true) (h1:a.ev α.tm=.ob k sz 0 len none) (c:S.get k=some (.arr sz (ρ.h (nu f z m) acc) 0 ex)) (q:len=acc.length) (d:b.ev α.tm=aR ρ f ex' ys) (u:∀x,(f x).length=sz) (v:∀x,(f x).all dh=true) (w:acc.length+ys.length<=m)
  (kk:∀j r,j=acc++ys->r=j.length->ad P w0 rd n Q (.bc false l K) (bP dd α (.ob k sz 0 r none)) (S.set k (some (.arr sz (ρ.h (nu f z m) j) 0 ex)))):ad P w0 rd n Q (.bc false (⟨dd,gg,.append sz by_ a b⟩::l) K) α S:=by
 rw[bX]at d;have h:=kk _ _ rfl rfl;rw[ρ.eq]at h c;cases ys with
 |nil =>
  rw[aB_]at h;have e:S.set k (some (.arr sz (nu f z m acc) 0 ex))=S:=by
   cases S with
   |mk g x=>show (⟨bE g k _,x⟩:af)=⟨g,x⟩;rw[afc c]
  rw[e]at h;subst q;exact ad.op (i:=⟨dd,gg,.append sz by_ a b⟩) p (ae.RJ h1 c (by rw[d];exact jv)) h
 |cons y ys =>
  have A:=XW (f:=f) (z:=z) (show acc.length<=m by omega);have hlen:(f y::List.map f ys).length=(y::ys).length:=by simp
  have o:=ae.amW (P:=P) (w0:=w0) (by_:=by_) (x:=f y) (more:=List.map f ys) h1 c (by rw[d];exact jv) (ax_ _) (by grind) (λrow B=>by grind);have C:(nu f z m acc).take len=acc.map f:=by grind[nu]
  have D:(nu f z m acc).drop (len+(f y::List.map f ys).length)=List.replicate (m - (acc++y::ys).length) z:=by
   rw[nu,q,List.drop_append,ak_ (by simp),aK_,List.drop_replicate];congr 1;simp;omega
  have s:(nu f z m acc).take len++f y::List.map f ys++(nu f z m acc).drop (len+(f y::List.map f ys).length)=nu f z m (acc++y::ys):=by grind[nu]
  rw[s]at o;have t:len+(f y::List.map f ys).length=(acc++y::ys).length:=by grind
  rw[t]at o;exact ad.op (i:=⟨dd,gg,.append sz by_ a b⟩) p o h
theorem aP.anc {k len:Nat}{ex:Bool}(c:S.get k=some (.arr sz (ρ.h (nu f z m) acc) 0 ex)) (n:len=acc.length):aP S (.ob k sz 0 len none) (aR ρ f false acc):=by
 rw[bX];rw[ρ.eq]at c;have key:∀i row,(acc.map f)[i]?=some row->(nu f z m acc)[i]?=some row:=λi row h=>by
  unfold nu;rw[bb_ (ar_.1 h).1];exact h
 refine .ob c (by simp[nu];omega) (by grind) (λi row g b d=>?_) (λi j row g a o b d l e=>?_)
 ·grind
 ·rw[aD_,key i _ d]at b;rw[oJ_ b,l]at e;rw[oJ_ e];exact .refl _
theorem a_.yl {B:Nat}{f:QO}{aZ9:List QO}{k:Nat}{args:List AV}{J e:fG}(h:f.ev α.tm=.yl k) (i:aZ9.map (·.ev α.tm)=args) (A:S.get k=some (.fo J)) (j:∀(T:af) (k:Nat),T.get k=some (.fo J)->BP P w0 k args T (.v (.bool b)) (T.set k (some (.fo e)))) :
  a_ P w0 B (.call f aZ9) α S (.v (.bool b)) ⟨[(k,.fo J)],[(k,some (.fo e))],false⟩:=by
 intro n o l;obtain⟨c,u,m,a,r,d⟩:=lV l;refine⟨λs=>(by grind[ql,oQ]),λp s=>(by grind),λT _ v _=>?_⟩;have w:T.get k=some (.fo J):=v _ List.mem_cons_self;have g:∀q ∈ (.call c:Op).operands,(α.only (dH o)).ev q=α.ev q:=λq x=>gm λt C=>gw (by grind);have y:(α.only (dH o)).ev u=.yl k:=by rw[g u (show u ∈ c.operands by simp[Call.operands,a]),<-h,r,aW]
 have z:c.args.toList.map (α.only (dH o)).ev=args:=by
  rw[<-i,d,jt];exact aF_ λq x=>g q (show q ∈ c.operands by simp[Call.operands,a];exact .inr (by grind))
 rw[gj];exact Ir m a y (by rw[z];exact j T k w)
end
section
attribute [local irreducible] ah aG ae ad
def FW (x y:Im):Bool:=x.id == y.id && Iy ⟨x.n,x.a⟩ ⟨y.n,y.a⟩ == 0
def FX (x y:Bd):Bool:=x.v == y.v && iH x.t y.t == 0
def FY (x y:Fi):Bool:=FL x y == 0
def HA (s t:EJ):Bool:=kE sy s.goals t.goals && (kE FW s.store t.store && (kE FX s.binds t.binds && (kE FY s.su t.su && (kE sy s.known t.known && (s.next == t.next && (s.fresh == t.fresh && s.failed == t.failed))))))
end
theorem yF (a:Int):iG a a=0:=by grind[iG]
theorem MZ:∀l:List UInt8,Op.bytesLess l l=false
 |[]=>rfl
 |x::l=>by
  simp only[Op.bytesLess];have:=MZ l;simp[this]
theorem JW (a:ByteArray):AN a a=0:=by grind[AN,MZ]
mutual
theorem JX:∀t:Tm,iH t t=0
 |⟨k,i,n,a⟩=>by
  have h:=Bg a;rw[iH];simp only[yF,JW,h,fh,if_true];split<;>first|rfl|(split<;>rfl)
theorem Bg:∀l:List Tm,jH l l=0
 |[]=>by rw[jH];exact yF 0
 |x::l=>by rw[jH,JX x,Bg l];rfl
end
theorem HB:∀l:List Int,El l l=0
 |[]=>rfl
 |x::l=>by rw[El,yF,HB l];rfl
theorem M0 {T:Type}{p:T->T->Bool}(h:∀x,p x x=true):∀l,kE p l l=true
 |[]=>rfl
 |x::l=>by rw[kE,h x,M0 h l];rfl
theorem SA (s:EJ):HA s s=true:=by grind[HA,M0,sy,Bg,FW,Iy,JW,yF,fh,FX,JX,FY,FL,HB]
end Go.Proofs.YtbpabjmnhggajaaGreat
