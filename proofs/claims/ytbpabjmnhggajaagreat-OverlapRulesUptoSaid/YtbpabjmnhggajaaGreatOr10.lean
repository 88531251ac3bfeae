import Derived.Test.YtbpabjmnhggajaaGreatOr9
namespace Go.Proofs.YtbpabjmnhggajaaGreat
set_option linter.all false
open Go.RowKit
variable {ex:Bool}{s:ByteArray}{i:Int}{more rows:List (List AV)}{args fN x z:List AV}{by_ j m pos sz:Nat}{ι:Nat->Nat}{hi lo:Option QO}{a b:QO}
section
variable {P:Program}{w0:World}{rd:Bool}{n:Nat}{o:Op}{α:AA}{S S':af}{r:AV}{q:mz}{dr:Bool}
def y8 (f:Nat->AV):Option QO->Int->Option Int
 |none,d=>some d
 |some x,_=>match x.ev f with
  |.v (.int _ i)=>some i
  |_=>none
theorem D_ {lo:Option Operand}{d:Int}(h:y8 α.tm (lo.map qo) d=some i):mK (lo.map α.ev) d=some i:=by
 cases lo with
 |none=>exact h
 |some x =>
  simp only[aE_,y8,aW]at h;simp only[aE_,mK];split at h
  ·grind
  ·grind
theorem PC {k:SK}{x:QO}(h:res P.toTables o=some (.slice k x lo hi none)):∃t u a h1,o=.slice t u a h1 none/\x=qo u/\lo=a.map qo/\hi=h1.map qo /\
  ((k=.str/\P.underlying t=some .string)\/∃e m,k=.sl m/\P.underlying t=some (.slice e)/\ep P e=some m):=by
 cases o with
 |slice t u a h1 d =>
  simp only[res,cF,fX]at h;split at h
  ·rename_i b;simp only[oI_,mz.slice.injEq,du_]at h;obtain⟨rfl,rfl,rfl,rfl,rfl⟩:=h;exact⟨_,_,_,_,rfl,rfl,rfl,rfl,.inl ⟨rfl,b⟩⟩
  ·rename_i e b;split at h
   ·rename_i m c;simp only[oI_,mz.slice.injEq,du_]at h;obtain⟨rfl,rfl,rfl,rfl,rfl⟩:=h;exact⟨_,_,_,_,rfl,rfl,rfl,rfl,.inr ⟨_,_,rfl,b,c⟩⟩
   ·grind
  ·grind
 |_ =>
  simp only[res]at h
  repeat' split at h
  all_goals cases h
theorem ae.ama {x:QO}{l h:Int}(h1:x.ev α.tm=.v (.string s)) (h2:y8 α.tm lo 0=some l) (h3:y8 α.tm hi s.size=some h) (h4:0<=l) (h5:l<=h) (h6:h<=s.size) :
  ae P w0 dr (.slice .str x lo hi none) α S (.v (.string (s.extract l.toNat h.toNat))) S:=by
 refine ae.of rfl λo a=>?_;obtain⟨t,u,c,d,rfl,rfl,rfl,rfl,b|⟨e,m,f,_⟩⟩:=PC a
 ·rw[aW]at h1;simp only[bu,r7,bj_,h1,b.2,D_ h2,D_ h3];exact⟨h4,h5,h6,rfl,rfl⟩
 ·grind
theorem ae.ac5 {x:QO}{l h:Int}(h1:x.ev α.tm=.sl ex rows) (h2:y8 α.tm lo 0=some l) (h3:y8 α.tm hi rows.length=some h) (h0:∀row ∈ rows,row.length=m) (h4:0<=l) (h5:l<=h) (h6:h<=rows.length) :
  ae P w0 dr (.slice (.sl m) x lo hi none) α S (.sl false ((rows.take h.toNat).drop l.toNat)) S:=by
 refine ae.of rfl λo b=>?_;obtain⟨t,u,f,g,rfl,rfl,rfl,rfl,c|⟨e,i,a,c,d⟩⟩:=PC b
 ·grind
 ·injection a with a;subst a;rw[aW]at h1;simp only[bu,r7,bj_,h1,c,D_ h2,D_ h3,d];exact⟨λrow b=>by grind,rfl,h4,h5,h6,rfl,rfl⟩
theorem pG (h:res P.toTables o=some (.append sz by_ a b)):∃c t t2 u v e f z,o=.call c/\c.callee=.builtin .append/\c.argTypes.toList=[t,t2]/\c.args.toList=[u,v]/\a=qo u/\b=qo v/\l9 P t=some e/\l9 P t2=some f/\d_ P e=some z /\
  ep P e=some sz/\ku P e=some by_/\Nat.beq z.cells.size sz=true/\Nat.blt 0 by_=true:=by
 cases o<;>simp only[res,cF,fX,oa,ky,nc]at h<;>(repeat' split at h)<;>(try cases h)
 rename_i d;simp only[al_]at d;exact⟨_,_,_,_,_,_,_,_,rfl,by grind,by assumption,by grind,rfl,rfl,by assumption,by assumption,by grind,by grind,by grind,d.1,d.2⟩
def kA (S:af) (b:AV):Option (List (List AV)):=match rowsOf S b,qg b with
 |some l,some k=>match Nat.beq k l.length with|true=>some l|false=>none
 |_,_=>none
theorem j_ {S:af}{b:AV}{l:List (List AV)}(h:kA S b=some l):rowsOf S b=some l/\qg b=some l.length:=by
 unfold kA at h;split at h
 ·rename_i c a;split at h
  ·rename_i e;obtain rfl:=oJ_ h;rw[aH_ e]at a;exact⟨c,a⟩
  ·grind
 ·grind
theorem ae.append (d:rowsOf S (b.ev α.tm)=some more) (f:qg (b.ev α.tm)=some more.length)
  (h:∀e z,d_ P e=some z->ep P e=some sz->ku P e=some by_->Nat.blt 0 by_=true->pH P e (wJ r S') S more (a.ev α.tm)):ae P w0 dr (.append sz by_ a b) α S r S':=by
 refine ae.of rfl λo j=>?_;obtain⟨c,t,t2,u,v,e,x,z,rfl,k,l,m,rfl,rfl,n,p,g,i,q,s,w⟩:=pG j;rw[aW]at d f h;simp only[bu,k,oY,l,m,aC_,bg_,n,p,g,i,s];exact bC.mk d ⟨f,h e z g i q w⟩
theorem ae.Ik (h1:a.ev α.tm=.sl true rows) (c:kA S (b.ev α.tm)=some []):ae P w0 dr (.append sz by_ a b) α S (.sl true rows) S:=by
 refine ae.append (j_ c).1 (j_ c).2 λe z d f g h=>?_;rw[h1];exact⟨rfl,rfl⟩
theorem ae.Il (h1:a.ev α.tm=.sl true rows) (c:kA S (b.ev α.tm)=some (x::more)) (h2:∀row ∈ rows,row.length=sz) (h3:∀row ∈ x::more,row.length=sz)
  (h4:(rows.length+(x::more).length)*by_<=35184372088832):ae P w0 dr (.append sz by_ a b) α S (.ob S.nx sz 0 (rows.length+(x::more).length) none) (S.new (.arr sz (rows++x::more) 0 false)):=by
 refine ae.append (j_ c).1 (j_ c).2 λe z h d f g=>?_;rw[h1];simp only[pH,d,f,g];exact⟨h2,h3,h4,rfl,rfl⟩
theorem ae.amb {k fz len:Nat}(h1:a.ev α.tm=.ob k sz 0 len none) (d:S.get k=some (.arr sz rows fz ex)) (c:kA S (b.ev α.tm)=some (x::more)) (h0:fz<=len) (h2:len<=rows.length)
  (h3:∀row ∈ x::more,row.length=sz/\row.all dh=true) (h4:(len+(x::more).length)*by_<=35184372088832) :
  ae P w0 dr (.append sz by_ a b) α S (.ob S.nx sz 0 (len+(x::more).length) none) ((S.set k none).new (.arr sz (rows.take len++x::more) fz false)):=by
 refine ae.append (j_ c).1 (j_ c).2 λe z i f g h=>?_;rw[h1];simp only[pH];refine bC.mk (Ll d) ?_;simp only[f,g,h,bp_,cg_,aL_];exact⟨h0,h2,h3,h4,rfl,rfl⟩
theorem ae.RJ {k fz len sz':Nat}(h1:a.ev α.tm=.ob k sz' 0 len none) (d:S.get k=some (.arr sz' rows fz ex)) (c:kA S (b.ev α.tm)=some []) :
  ae P w0 dr (.append sz by_ a b) α S (.ob k sz' 0 len none) S:=by
 refine ae.append (j_ c).1 (j_ c).2 λe z f g h i=>?_;rw[h1];simp only[pH];exact bC.mk (Ll d) ⟨rfl,rfl⟩
theorem PE {l c:QO}(h:res P.toTables o=some (.pI z by_ l c)):∃t u v e a sz,o=.makeSlice t u v/\l=qo u/\c=qo v/\l9 P t=some e/\d_ P e=some a/\ep P e=some sz/\ku P e=some by_ /\
  z=a.cells.toList.map cK/\Nat.beq a.cells.size sz=true/\Nat.blt 0 sz=true:=by
 cases o with
 |makeSlice t u v =>
  simp only[res,fX,oa,ky,nc]at h;split at h
  ·rename_i e d;split at h
   ·rename_i a sz j f g i;split at h
    ·rename_i b;simp only[al_]at b;simp only[oI_,mz.pI.injEq]at h;obtain⟨rfl,rfl,rfl,rfl⟩:=h;exact⟨_,_,_,_,_,_,rfl,rfl,rfl,d,f,g,i,rfl,b.1,b.2⟩
    ·grind
   ·grind
  ·grind
 |_ =>
  simp only[res]at h
  repeat' split at h
  all_goals cases h
theorem ae.Zx {l c:QO}{k f:IntKind}{a b:Int}(h1:l.ev α.tm=.v (.int k a)) (h2:c.ev α.tm=.v (.int f b)) (h3:0<=a) (h4:a=b) (h5:a*by_<=35184372088832) (h6:a<=9223372036854775807) :
  ae P w0 dr (.pI z by_ l c) α S (.ob S.nx z.length 0 a.toNat none) (S.new (.arr z.length (List.replicate a.toNat z) 0 true)):=by
 refine ae.of rfl λo g=>?_;obtain⟨t,u,v,e,h,sz,rfl,rfl,rfl,i,j,m,n,rfl,d,p⟩:=PE g;have q:(h.cells.toList.map cK).length=sz:=by rw[<-aH_ d];simp
 rw[aW]at h1 h2;rw[q];simp only[bu,h1,h2,i,j,m,n,d,p,cg_];exact⟨h3,h4,h5,h6,rfl,rfl⟩
theorem ae.amc {x:QO}(h1:x.ev α.tm=.v (.string s)):ae P w0 dr (.TO x) α S (.pt S.nx 0 0 0) (S.new (.si s 0)):=by
 refine ae.of rfl λo a=>?_;cases o<;>simp only[res,cF]at a<;>(repeat' split at a)<;>(try cases a)
 rw[aW]at h1;simp only[bu, *];exact⟨rfl,rfl⟩
theorem ae.WG {x:QO}{k:Nat}(h1:x.ev α.tm=.pt k sz 0 0) (c:S.get k=some (.si s pos)) (d:pos < s.size) :
  ae P w0 dr (.Ea x) α S (.aL [.v (.bool true),.v (.int .i64 pos),.v (.int .i32 (Utf8.decode s pos).1)]) (S.set k (some (.si s (pos+(Utf8.decode s pos).2)))):=by
 refine ae.of rfl λo b=>?_;cases o<;>simp only[res,cF]at b<;>(repeat' split at b)<;>(try cases b)
 rw[aW]at h1;simp only[bu,h1];refine bC.mk (a:=(s,pos)) (by grind[Lm]) ⟨true,by grind,rfl,rfl⟩
theorem ae.amd {x:QO}{k:Nat}(h1:x.ev α.tm=.pt k sz 0 0) (c:S.get k=some (.si s pos)) (d:s.size<=pos):ae P w0 dr (.Ea x) α S (.aL [.v (.bool false)]) S:=by
 refine ae.of rfl λo b=>?_;cases o<;>simp only[res,cF]at b<;>(repeat' split at b)<;>(try cases b)
 rw[aW]at h1;simp only[bu,h1];refine bC.mk (a:=(s,pos)) (by grind[Lm]) ⟨false,by grind,rfl,rfl⟩
end
section
variable {P:Program}{w0:World}{rd:Bool}{n:Nat}{α:AA}{S:af}{ex:Exit}{rs:Array ResultVar}{r r':AV}{Q:Exit->AA->af->Prop}{l:List QI}{K:List f_}{dr:Bool}
theorem ad.WG {d:Option Nat}{g:Option (Nat × Bool)}{x:QO}{k:Nat}(a:bG α.tm g=some true) (h1:x.ev α.tm=.pt k sz 0 0) (b:S.get k=some (.si s pos))
  (e:pos < s.size->∀(j c:Int) (p:Nat),j=pos->c=(Utf8.decode s pos).1->p=pos+(Utf8.decode s pos).2->ad P w0 rd n Q (.bc dr l K) (bP d α (.aL [.v (.bool true),.v (.int .i64 j),.v (.int .i32 c)])) (S.set k (some (.si s p))))
  (f:s.size<=pos->ad P w0 rd n Q (.bc dr l K) (bP d α (.aL [.v (.bool false)])) S):ad P w0 rd n Q (.bc dr (⟨d,g,.Ea x⟩::l) K) α S:=by
 rcases bo_ pos s.size with h|h
 ·exact ad.op (i:=⟨d,g,.Ea x⟩) a (ae.WG h1 b h) (e h _ _ _ rfl rfl rfl)
 ·exact ad.op (i:=⟨d,g,.Ea x⟩) a (ae.amd h1 b h) (f h)
theorem ad.gen {i:QI}{S':af}{T:Type}(F:T->AV) {p:T}(b:bG α.tm i.g=some true) (h:ae P w0 dr i.q α S (F p) S') (k:∀a,a=p->ad P w0 rd n Q (.bc dr l K) (bP i.d α (F a)) S'):ad P w0 rd n Q (.bc dr (i::l) K) α S:=ad.op b h (k p rfl)
theorem ae.Io {ρ:Hd}{T:Type}{f:T->List AV}{xs:List T}{x:QO}{ex:Bool}{j:Int}(h1:x.ev α.tm=.sl ex (ρ.h (List.map f) xs)) (h2:y8 α.tm lo 0=some i) (h3:y8 α.tm hi (ρ.h (List.map f) xs).length=some j)
  (h0:∀x,(f x).length=m) (h4:0<=i) (h5:i<=j) (h6:j<=xs.length):ae P w0 dr (.slice (.sl m) x lo hi none) α S (aR ρ f false ((xs.take j.toNat).drop i.toNat)) S:=by
 have:=ae.ac5 (P:=P) (w0:=w0) (dr:=dr) (S:=S) h1 h2 h3 (aA h0) h4 h5 (by rw[au];exact h6);rw[bX,List.map_drop,List.map_take,<-ρ.eq (List.map f) xs];exact this
theorem ae.KP {ρ:Hd}{T:Type}{f:T->List AV}{xs:List T}{x:QO}{lo:QO}{ex:Bool}{k:IntKind}(h1:x.ev α.tm=.sl ex (ρ.h (List.map f) xs)) (h2:lo.ev α.tm=.v (.int k i))
  (h0:∀x,(f x).length=m) (h4:0<=i) (h5:i<=xs.length):ae P w0 dr (.slice (.sl m) x (some lo) none none) α S (aR ρ f false (xs.drop i.toNat)) S:=by
 have:=ae.Io (P:=P) (w0:=w0) (dr:=dr) (S:=S) (lo:=some lo) (hi:=none) (i:=i) (j:=xs.length) h1 (by grind[y8]) (by simp only[y8,au]) h0 h4 h5 (by omega);simpa using this
def Wk (a b:AV):Prop:=∀(g:Gh) (w:World) (x:Value),aN g w a x->aN g w b x
def Ln:List AV->List AV->Prop
 |[],[]=>True
 |a::l,b::m=>Wk a b/\Ln l m
 |_,_=>False
theorem Wk.refl (a:AV):Wk a a:=λ_ _ _ h=>h
theorem Ln.len:∀{l m:List AV},Ln l m->l.length=m.length
 |[],[],_=>rfl
 |_::_,_::_,h=>by simp[h.2.len]
 |[],_::_,h=>h.elim
 |_::_,[],h=>h.elim
theorem Ln.at:∀{l m:List AV},Ln l m->∀(i:Nat) (b:AV),m[i]?=some b->∃a,l[i]?=some a/\Wk a b
 |[],[],_,i,b,h=>by grind
 |a::l,b::m,e,i,c,h=>by
  cases i with
  |zero=>simp at h;subst h;exact⟨a,rfl,e.1⟩
  |succ i=>simp at h;obtain⟨d,g,f⟩:=e.2.at i c h;exact⟨d,by grind,f⟩
 |[],_::_,h,_,_,_=>h.elim
 |_::_,[],h,_,_,_=>h.elim
theorem Wk.sl {ex:Bool}{rows:List (List AV)}:Wk (.sl ex rows) (.sl false rows):=λg w x a=>by
 cases a with
 |nil c=>exact .nil (λh=>by grind)
 |sl d c b e h a=>exact .sl d (λh=>by grind) b e h a
theorem Wk.nil {ρ:Hd}{T:Type}{f:T->List AV}{ex:Bool}:Wk (.sl ex []) (aR ρ f false []):=by rw[bX];exact Wk.sl
theorem aG.wk {f:FuncId}{S':af}(h:aG P w0 f args S r S') (d:Ln fN args):aG P w0 f fN S r S':=by
 refine⟨h.1,λF m A g c w j k e=>h.2 F m A g c w j k ⟨e.1.trans d.len,λi a x l n=>?_⟩⟩;obtain⟨b,o,p⟩:=d.at i a l;exact p _ _ _ (e.2 i b x o n)
theorem ae.oZ {f:QO}{aZ9:List QO}{g:FuncId}(h:eV (f.ev α.tm) (aZ9.map (·.ev α.tm))=some (g,fN)) (a:ah P w0 g args r) (b:kc args) (c:Ln fN args):ae P w0 dr (.call f aZ9) α S r S:=ae.call h ((a.RK b S).wk c) λ_=>rfl
variable {ρ:Hd}{T:Type}{f:T->List AV}{acc:List T}{x:T}
theorem wz {B:Nat}{ex:Bool}:ec B (.sl ex []):=.sl λr a=>by grind
theorem jS {B fz:Nat}{ex:Bool}(h:∀x ∈ acc,∀a ∈ f x,Pure a):h_ B (.arr sz (ρ.h (List.map f) acc) fz ex):=by
 rw[ρ.eq];intro row b a c;obtain⟨x,d,rfl⟩:=av_.1 b;exact (h x d a c).bm
theorem aP.ac6 {S:af}{k len:Nat}{ex:Bool}(c:S.get k=some (.arr sz (ρ.h (List.map f) acc) 0 ex)) (l:len=acc.length):aP S (.ob k sz 0 len none) (aR ρ f false acc):=by
 rw[bX];rw[ρ.eq]at c;refine .ob c (by grind) (by grind) (λi row g b d=>?_) (λi j row g a m b d h e=>?_)
 ·grind
 ·rw[aD_,d]at b;rw[oJ_ b,h]at e;rw[oJ_ e];exact .refl _
end
def Gh.pre (g:Gh) (ι:Nat->Nat) (M:Nat):Gh:=⟨λj=>g.ob (ι j),λj=>g.cp (ι j),λj=>j < M/\g.al (ι j),g.fz,g.fo⟩
def Rn (ι:Nat->Nat) (M:Nat) (a b:AV):Prop:=∀(g:Gh) (w:World) (x:Value),aN g w a x->aN (g.pre ι M) w b x
def lj (ι:Nat->Nat) (M:Nat) (a o:Ob):Prop:=(∀(g:Gh) (w:World) (b cp:Nat),eU g w b cp a->eU (g.pre ι M) w b cp o)/\∀J,o=.fo J->a=.fo J
structure Bk (ι:Nat->Nat) (gc g:Gh):Prop where
 al:∀j,gc.al j->g.al (ι j)
 ob:∀j,gc.al j->g.ob (ι j)=gc.ob j
 cp:∀j,gc.al j->g.cp (ι j)=gc.cp j
 fz:g.fz=gc.fz
def Rb (ι:Nat->Nat) (b a:AV):Prop:=∀(gc g:Gh) (w:World) (x:Value),Bk ι gc g->aN gc w b x->aN g w a x
def me (ι:Nat->Nat) (o a:Ob):Prop:=(∀(gc g:Gh) (w:World) (b cp:Nat),Bk ι gc g->(∀J,o=.fo J->g.fo=gc.fo)->eU gc w b cp o->eU g w b cp a)/\∀J,a=.fo J->o=.fo J
def dz (ι:Nat->Nat) (M T:Nat) (j:Nat):Nat:=match Nat.blt j M with|true=>ι j|false=>T+j
theorem pJ {M T:Nat}(h:j < M):dz ι M T j=ι j:=by
 have:Nat.blt j M=true:=cf_ h;simp only[dz,this]
theorem wA {M T:Nat}(h:M<=j):dz ι M T j=T+j:=by
 have:Nat.blt j M=false:=by
  cases e:Nat.blt j M with
  |false=>rfl
  |true=>exact absurd (aq_ e) (by omega)
 simp only[dz,this]
structure r8 (ι:Nat->Nat) (S S' T T':af):Prop where
 inj:∀i j,i < S.nx->j < S.nx->ι i=ι j->i=j
 lt:∀j,j < S.nx->ι j < T.nx
 hS:∀j o,S.get j=some o->∃dy,T.get (ι j)=some dy/\lj ι S.nx dy o
 hT:∀k gD,T'.get k=some gD->(∃j o,dz ι S.nx T.nx j=k/\S'.get j=some o/\me (dz ι S.nx T.nx) o gD)\/(k < T.nx/\(∀j,j < S.nx->ι j ≠ k)/\T.get k=some gD)
 nx:T'.nx=T.nx+S'.nx\/(S'.nx<=S.nx/\T'.nx=T.nx)
structure Fits (ι:Nat->Nat) (S S' T T':af):Prop where
 inj:∀i j,i < S.nx->j < S.nx->ι i=ι j->i=j
 lt:∀j,j < S.nx->ι j < T.nx
 hS:∀j o,S.get j=some o->∃dy,T.get (ι j)=some dy/\lj ι S.nx dy o
 hT:∀k gD,T'.get k=some gD->(∃j o,dz ι S.nx T.nx j=k/\S'.get j=some o/\me (dz ι S.nx T.nx) o gD)\/(k < T.nx/\(∀j,j < S.nx->ι j ≠ k)/\T.get k=some gD)
 nx:T'.nx=T.nx+S'.nx\/(S'.nx<=S.nx/\T'.nx=T.nx)
 fo:(∀k J,T.get k=some (.fo J)->∃j,j < S.nx/\ι j=k)\/(∀j J,S'.get j ≠ some (.fo J))
section
variable {w0:World}{A:Nat->Prop}{g:Gh}{S S' T T':af}{w:World}{ι:Nat->Nat}
def Ip (gc:Gh) (S:af) (w:World) (b:Nat):Prop:=w.heap.size<=b\/∃j o,S.get j=some o/\gc.al j/\(b=gc.ob j\/∃J,o=.fo J/\gc.fo (gc.ob j) b)
theorem Fits.y (h:Fits ι S S' T T'):r8 ι S S' T T':=⟨h.inj,h.lt,h.hS,h.hT,h.nx⟩
theorem r8.sub (d:r8 ι S S' T T') (a:St w0 A g T w) {b:Nat}(h:Ip (g.pre ι S.nx) S w b):A b:=by
 rcases h with h|⟨j,o,e,c,f⟩
 ·exact a.up b h
 ·obtain⟨i,k,m,n⟩:=d.hS j o e;rcases f with rfl|⟨J,rfl,l⟩
  ·exact (a.cT _ i k c.2).1
  ·exact (a.kP _ J (by grind) c.2 b l).1
theorem r8.inner (d:r8 ι S S' T T') (f:St w0 A g T w):St w0 (Ip (g.pre ι S.nx) S w) (g.pre ι S.nx) S w :=
 ⟨f.base,λb u=>.inl u,λb u=>f.lo b (d.sub f u),λk a=>a.1,λk o a h=>by
   obtain⟨l,m,n,v⟩:=d.hS k o a;obtain⟨x,y,z⟩:=f.cT _ l m h.2;exact⟨.inr ⟨k,o,a,h,.inl rfl⟩,y,n _ _ _ _ z⟩,
  λj k o p q a i r e=>by
   obtain⟨l,m,_⟩:=d.hS j o q;obtain⟨s,n,_⟩:=d.hS k p a;exact d.inj j k i.1 r.1 (f.inj _ _ l s m n i.2 r.2 e),
  f.dw,f.rp,λk J a h c t=>by
   obtain⟨l,m,_,v⟩:=d.hS k _ a;exact⟨.inr ⟨k,_,a,h,.inr ⟨J,rfl,t⟩⟩,(f.kP _ J (by grind) h.2 c t).2⟩,
  λk J j o a h q i B t=>by
   obtain⟨l,m,_,v⟩:=d.hS k _ a;obtain⟨s,n,_⟩:=d.hS j o q;exact f.nb _ J _ s (by grind) h.2 n i.2 (λe=>B (d.inj j k i.1 h.1 e)) t,
  λj k J C q a i r=>by
   obtain⟨l,m,_,v⟩:=d.hS j _ q;obtain⟨s,n,_,x⟩:=d.hS k _ a;exact d.inj j k i.1 r.1 (f.oW _ _ J C (by grind) (by grind) i.2 r.2)⟩
theorem r8.ac7 (c:r8 ι S S' T T') {i:Nat}(h:dz ι S.nx T.nx i=dz ι S.nx T.nx j):i=j:=by
 rcases bo_ i S.nx with a|a<;>rcases bo_ j S.nx with b|b
 ·rw[pJ a,pJ b]at h;exact c.inj i j a b h
 ·rw[pJ a,wA b]at h;have:=c.lt i a;omega
 ·rw[wA a,pJ b]at h;have:=c.lt j b;omega
 ·grind[wA]
theorem r8.outer (t:r8 ι S S' T T') (n:St w0 A g T w) {gc:Gh}{w':World}(z:St w0 (Ip (g.pre ι S.nx) S w) gc S' w') (u:Ext (Ip (g.pre ι S.nx) S w) (g.pre ι S.nx) w gc w')
  (Lj:(∀k J,T.get k=some (.fo J)->g.al k->∃j,j < S.nx/\ι j=k)\/(∀j J,S'.get j ≠ some (.fo J))):∃g',St w0 A g' T' w'/\Ext A g w g' w'/\Bk (dz ι S.nx T.nx) gc g':=by
 classical
 obtain⟨X,W,Zy⟩:∃X:Nat->Nat->Prop,(∀j J,S'.get j=some (.fo J)->X=gc.fo)/\(∀k J,T.get k=some (.fo J)->g.al k->(∀j,j < S.nx->ι j ≠ k)->X=g.fo):=by
  rcases Lj with h|h
  ·exact⟨gc.fo,λ_ _ _=>rfl,λk J d r s=>by grind⟩
  ·exact⟨g.fo,λj J C=>absurd C (h j J),λ_ _ _ _ _=>rfl⟩
 let o:=dz ι S.nx T.nx
 let g':Gh:=⟨λk=>if h:∃j,o j=k then gc.ob h.choose else g.ob k,λk=>if h:∃j,o j=k then gc.cp h.choose else g.cp k,λk=>if h:∃j,o j=k then gc.al h.choose else g.al k,gc.fz,X⟩
 have Y:∀j (h:∃i,o i=o j),h.choose=j:=λj h=>t.ac7 h.choose_spec;have N:∀j,g'.ob (o j)=gc.ob j:=λj=>by
  have h:∃i,o i=o j:=⟨j,rfl⟩;show (if h:∃i,o i=o j then gc.ob h.choose else _)=_;rw[dif_pos h,Y j h]
 have Z:∀j,g'.cp (o j)=gc.cp j:=λj=>by
  have h:∃i,o i=o j:=⟨j,rfl⟩;show (if h:∃i,o i=o j then gc.cp h.choose else _)=_;rw[dif_pos h,Y j h]
 have e3:∀j,g'.al (o j)=gc.al j:=λj=>by
  have h:∃i,o i=o j:=⟨j,rfl⟩;show (if h:∃i,o i=o j then gc.al h.choose else _)=_;rw[dif_pos h,Y j h]
 have f1:∀k,(∀j,o j ≠ k)->g'.ob k=g.ob k:=λk d=>dif_neg λ⟨j,C⟩=>d j C;have f2:∀k,(∀j,o j ≠ k)->g'.cp k=g.cp k:=λk d=>dif_neg λ⟨j,C⟩=>d j C;have f3:∀k,(∀j,o j ≠ k)->g'.al k=g.al k:=λk d=>dif_neg λ⟨j,C⟩=>d j C;have aC:∀k,g.al k->(∃j,j < S.nx/\o j=k/\ι j=k/\(g.pre ι S.nx).al j)\/∀j,o j ≠ k:=by
  intro k d;by_cases h:∃j,o j=k
  ·obtain⟨j,C⟩:=h;rcases bo_ j S.nx with m|m
   ·have a:ι j=k:=by grind[pJ]
    exact .inl ⟨j,m,C,a,m,by grind⟩
   ·have a:o j=T.nx+j:=wA m;have:=n.al k d;omega
  ·grind
 have free:∀k,k < T.nx->(∀j,j < S.nx->ι j ≠ k)->∀j,o j ≠ k:=by grind[pJ,wA]
 have out:∀k p,T.get k=some p->g.al k->(∀j,j < S.nx->ι j ≠ k)->¬ Ip (g.pre ι S.nx) S w (g.ob k):=by
  rintro k p d r s (h|⟨j,q,m,a,f⟩)
  ·exact absurd (n.cT k p d r).2.1 (by omega)
  ·obtain⟨O,x,_,Q⟩:=t.hS j q m;rcases f with f|⟨J,rfl,h7⟩
   ·exact s j a.1 (n.inj k (ι j) p O d x r a.2 f).symm
   ·exact n.nb (ι j) J k p (by grind) a.2 d r (λe=>s j a.1 e.symm) h7
 have hL:Later g w g' w':=by
  refine⟨λk d=>?_,λk d=>?_,λk d=>?_,u.fz,u.cell⟩
  ·rcases aC k d with ⟨j,m,a,f,x⟩|h
   ·rw[<-a,e3];exact u.al j x
   ·grind
  ·rcases aC k d with ⟨j,m,a,f,x⟩|h
   ·rw[<-a,N,u.ob j x,a,<-f];rfl
   ·grind
  ·rcases aC k d with ⟨j,m,a,f,x⟩|h
   ·rw[<-a,Z,u.cp j x,a,<-f];rfl
   ·grind
 have hEx:Ext A g w g' w':={ hL with size:=u.size,aM:=λb hb hA=>u.aM b hb λh=>hA (t.sub n h),kr:=λb q h=>(u.kr b q h).imp id (t.sub n) };have hB:Bk o gc g':=⟨λj C=>by grind,λj _=>N j,λj _=>Z j,rfl⟩;refine⟨g',⟨z.base,λb hb=>n.up b (ay_ u.size hb),n.lo,λk d=>?_,λk I d r=>?_,λk l I G d L K D e=>?_,z.dw,z.rp,λk J d r c E=>?_,λk J l G d r L D dm E=>?_,λk l J M d L K D=>?_⟩,hEx,hB⟩
 ·by_cases h:∃j,o j=k
  ·obtain⟨j,rfl⟩:=h;rw[e3]at d;have m:=z.al j d;rcases bo_ j S.nx with a|a
   ·rw[show o j=ι j from pJ a];have:=t.lt j a;rcases t.nx with e|⟨_,e⟩<;>omega
   ·rw[show o j=T.nx+j from wA a];rcases t.nx with e|⟨_,e⟩<;>omega
  ·rw[f3 k λj C=>h ⟨j,C⟩]at d;have:=n.al k d;rcases t.nx with e|⟨_,e⟩<;>omega
 ·rcases t.hT k I d with ⟨j,p,rfl,m,a,f⟩|⟨m,a,f⟩
  ·have R:gc.al j:=by grind
   obtain⟨x,H,Q⟩:=z.cT j p m R;rw[show g'.ob (dz ι S.nx T.nx j)=gc.ob j from N j,show g'.cp (dz ι S.nx T.nx j)=gc.cp j from Z j];exact⟨t.sub n x,H,a gc g' w' _ _ hB (λJ hJ=>W j J (by grind)) Q⟩
  ·have s:=free k m a;rw[f3 k s]at r;rw[f1 k s,f2 k s];obtain⟨x,H,Q⟩:=n.cT k I f r;have jL:=out k I f r a;refine⟨x,au_ H u.size,Q.later hL (u.aM _ H jL) (λq hq=>(u.kr _ q hq).resolve_right jL) λJ hJ=>?_⟩;subst hJ;have GF:∀c,g.fo (g.ob k) c->¬ Ip (g.pre ι S.nx) S w c:=by
    rintro c E (h|⟨j,q,q1,F,P⟩)
    ·exact absurd (n.kP k J f r c E).2 (by omega)
    ·obtain⟨O,q4,_,q6⟩:=t.hS j q q1;rcases P with rfl|⟨M,rfl,q7⟩
     ·exact n.nb k J _ O f r q4 F.2 (a j F.1) E
     ·exact a j F.1 (n.oW _ _ M J (by grind) f F.2 r)
   refine⟨by grind,u.size,λc E=>u.aM c (n.kP k J f r c E).2 (GF c E),λc q E hq=>(u.kr c q hq).resolve_right (GF c E)⟩
 ·rcases t.hT k I d with ⟨i,p,rfl,m,a⟩|⟨m,a,f⟩<;>rcases t.hT l G L with ⟨j,q,rfl,v,y⟩|⟨v,y,k3⟩
  ·have e':gc.ob i=gc.ob j:=by grind
   rw[z.inj i j p q m v (by grind) (by grind) e']
  ·have s:=free l v y;rw[f3 l s]at D;rw[f1 l s,show g'.ob (dz ι S.nx T.nx i)=gc.ob i from N i]at e;exact absurd (e ▸ (z.cT i p m (by grind)).1) (out l G k3 D y)
  ·have s:=free k m a;rw[f3 k s]at K;rw[f1 k s,show g'.ob (dz ι S.nx T.nx j)=gc.ob j from N j]at e;exact absurd (e ▸ (z.cT j q v (by grind)).1) (out k I f K a)
  ·have s:=free k m a;have U:=free l v y;rw[f3 k s]at K;rw[f3 l U]at D;rw[f1 k s,f1 l U]at e;exact n.inj k l I G f k3 K D e
 ·rcases t.hT k _ d with ⟨j,p,rfl,m,a,f⟩|⟨m,a,f⟩
  ·have V:S'.get j=some (.fo J):=by grind
   have B:gc.fo (gc.ob j) c:=by grind
   obtain⟨x,H⟩:=z.kP j J V (by grind) c B;exact⟨t.sub n x,H⟩
  ·have s:=free k m a;rw[f3 k s]at r;have B:g.fo (g.ob k) c:=by grind
   obtain⟨x,H⟩:=n.kP k J f r c B;exact⟨x,au_ H u.size⟩
 ·rcases t.hT k _ d with ⟨i,p,rfl,m,a,f⟩|⟨m,a,f⟩
  ·have V:S'.get i=some (.fo J):=by grind
   have R:gc.al i:=by grind
   rcases t.hT l G L with ⟨j,q,rfl,v,y⟩|⟨v,y,k3⟩
   ·have B:gc.fo (gc.ob i) (gc.ob j):=by grind
    exact z.nb i J j q V R v (by grind) (λe=>dm (by rw[e])) B
   ·have s:=free l v y;rw[f3 l s]at D;have B:gc.fo (gc.ob i) (g.ob l):=by grind
    exact out l G k3 D y (z.kP i J V R _ B).1
  ·have s:=free k m a;rw[f3 k s]at r;have hX:=Zy k J f r a;rcases t.hT l G L with ⟨j,q,rfl,v,y⟩|⟨v,y,k3⟩
   ·have B:g.fo (g.ob k) (gc.ob j):=by grind
    rcases (z.cT j q v (by grind)).1 with h|⟨i,q,q1,F,P⟩
    ·exact absurd (n.kP k J f r _ B).2 (by omega)
    ·obtain⟨O,q4,_,q6⟩:=t.hS i q q1;rcases P with P|⟨M,rfl,q7⟩
     ·rw[P]at B;exact n.nb k J _ O f r q4 F.2 (a i F.1) B
     ·exact a i F.1 (n.oW _ _ M J (by grind) f F.2 r)
   ·have U:=free l v y;rw[f3 l U]at D;have B:g.fo (g.ob k) (g.ob l):=by grind
    exact n.nb k J l G f r k3 D dm B
 ·rcases t.hT k _ d with ⟨i,p,rfl,m,a,f⟩|⟨m,a,f⟩<;>rcases t.hT l _ L with ⟨j,q,rfl,v,y,k3⟩|⟨v,y,k3⟩
  ·rw[z.oW i j J M (by grind) (by grind) (by grind) (by grind)]
  ·grind
  ·grind
  ·rw[f3 k (free k m a)]at K;rw[f3 l (free l v y)]at D;exact n.oW k l J M f k3 K D
end
section
variable {P:Program}{w0:World}{S S' T T':af}{ι:Nat->Nat}{f:FuncId}{args args₀:List AV}{r r₀:AV}
theorem aG.frame (h:aG P w0 f args S r S') (d:Fits ι S S' T T') (p:args₀.length=args.length) (q:∀(i:Nat) (a b:AV),args₀[i]?=some a->args[i]?=some b->Rn ι S.nx a b) (s:Rb (dz ι S.nx T.nx) r r₀):aG P w0 f args₀ T r₀ T':=by
 refine⟨h.1,λF m A g c w t j l=>(h.2 F m _ _ c w t (d.y.inner j) ⟨l.1.trans p,λi b x u y=>?_⟩).mono ?_⟩
 ·have hi:i < args₀.length:=by grind
  have n:=ai_ hi;exact q i _ b n u _ _ _ (l.2 i _ x n y)
 ·rintro e z ⟨v,gc,rfl,B,C,D⟩;obtain⟨o,E,G,k3⟩:=d.y.outer j C D (d.fo.imp (λh k J H _=>h k J H) id);exact⟨v,o,rfl,s gc o z v k3 B,E,G⟩
theorem aG.ac8 (h:aG P w0 f args S r S') (l:r8 ι S S' T T') (p:args₀.length=args.length) (q:∀(i:Nat) (a b:AV),args₀[i]?=some a->args[i]?=some b->Rn ι S.nx a b) (s:Rb (dz ι S.nx T.nx) r r₀)
  (t:∀(A:Nat->Prop) (g:Gh) (w:World) (args':Array Value),St w0 A g T w->mj g w args₀ args'->∀k J,T.get k=some (.fo J)->g.al k->∃j,j < S.nx/\ι j=k):aG P w0 f args₀ T r₀ T':=by
 refine⟨h.1,λF m A g args' w u c d=>(h.2 F m _ _ args' w u (l.inner c) ⟨d.1.trans p,λi b x y z=>?_⟩).mono ?_⟩
 ·have hi:i < args₀.length:=by grind
  have n:=ai_ hi;exact q i _ b n y _ _ _ (d.2 i _ x n z)
 ·rintro e B ⟨v,gc,rfl,C,D,E⟩;obtain⟨o,G,H,k3⟩:=l.outer c D E (.inl (t A g w args' c d));exact⟨v,o,rfl,s gc o B v k3 C,G,H⟩
end
end Go.Proofs.YtbpabjmnhggajaaGreat
