import Derived.Test.YtbpabjmnhggajaaGreatOr37
namespace Go.Proofs.YtbpabjmnhggajaaGreat
set_option linter.all false
set_option maxRecDepth 100000
open Go.RowKit
variable {ex:Bool}{ρ:Hd}{j:Int}{ik:IntKind}{kn:KN}{ls vs:List (Int × Int)}{rows:List (List AV)}{ps:List (Nat × Nat)}{es:List (Value × AV)}{u up:List Nat}{jP:List QO}{N h nl sz ul:Nat}{g:Option (Nat × Bool)}{d:Option Nat}{hi x:QO}{Nd:aS}{S T:af}
def wl (so:List (Nat × Ob)) (N:Nat):List (Nat × Option Ob):=(List.range N).map λk=>(k,fb so k)
theorem ab5 {so:List (Nat × Ob)}{G:Nat->Option Ob}(k:Nat):er G (wl so N) k=if k < N then fb so k else G k:=by
 have key:∀(l:List Nat),er G (l.map λk=>(k,fb so k)) k=if k ∈ l then fb so k else G k:=by
  intro l
  induction l with
  |nil=>rfl
  |cons j l a =>
   rw[aC_,er];by_cases e:k=j
   ·grind[aJ]
   ·grind[aO]
 rw[wl,key];simp
theorem Nr {W:List (Nat × Option Ob)}{m:Bool}:(eP T W m).get=er T.get W/\(eP T W m).nx=T.nx+F3 W m:=by grind[gj]
structure zm (so:List (Nat × Ob)) (N:Nat):Prop where
 get:∀j o,fb so j=some o->j < N/\h_ N o/\∀J,o ≠ .fo J
section
variable {P:Program}{w0:World}{dr:Bool}{N B n:Nat}{so so':List (Nat × Ob)}{S T:af}{α:AA}{f:FuncId}{args:List AV}{r:AV}
theorem aG.here (h:aG P w0 f args (aq so N) r (aq so' N)) (I:N<=T.nx) (O:zm so N) (Q:∀j o,fb so j=some o->T.get j=some o) (K:zm so' N) (n:∀a ∈ args,ec N a) (R:ec N r) (m:Bool):aG P w0 f args T r (eP T (wl so' N) m):=by
 obtain⟨d,L⟩:∃d:af,d=⟨λk=>if k < T.nx then T.get k else none,T.nx⟩:=⟨_,rfl⟩;have get':∀k o,d.get k=some o->k < T.nx/\T.get k=some o:=λk o c=>by
  rw[L]at c;have c:(if k < T.nx then T.get k else none)=some o:=c;split at c
  ·grind
  ·grind
 have S:d.nx=T.nx:=by grind
 have V:∀k o,k < T.nx->T.get k=some o->d.get k=some o:=λk o c h=>by
  rw[L];show (if k < T.nx then T.get k else none)=some o;rw[if_pos c];exact h
 obtain⟨U,z⟩:∃U:af,U=⟨λk=>if k < N then fb so' k else d.get k,T.nx⟩:=⟨_,rfl⟩;have C:∀k,k < N->dz id N d.nx k=k:=λk c=>pJ c;have W:Fits id (aq so N) (aq so' N) d U:=by
  refine⟨λi j _ _ e=>e,λj l=>by rw[S];exact au_ l I,λj o l=>?_,λk o c=>?_,.inr ⟨ac_ _,by grind⟩,.inr λj J l=>?_⟩
  ·obtain⟨t,D,X⟩:=O.get j o l;exact⟨o,V j o (au_ t I) (Q j o l),lj.bm D X⟩
  ·rw[z]at c;have c:(if k < N then fb so' k else d.get k)=some o:=c;split at c
   ·rename_i E;obtain⟨q1,Y,Z⟩:=K.get k o c;refine .inl ⟨k,o,C k E,c,λgc g w b cp q _ G=>?_,λJ e=>e⟩;have y:∀k,k < N->dz id (aq so N).nx d.nx k=k:=C;exact eU.bm (B:=N) (λk c n=>by have:=q.al k n;rwa [y k c]at this) (λk c n=>by have:=q.ob k n;rwa [y k c]at this) (λk c n=>by have:=q.cp k n;rwa [y k c]at this) q.fz Y Z (λc h=>aN.back y q c h) G
   ·rename_i E;exact .inr ⟨by grind,λj l e=>E (by rw[<-e];exact l),c⟩
  ·exact absurd rfl ((K.get j _ l).2.2 J)
 have M:=h.frame W rfl (λi a b t u=>by
  rw[t]at u;obtain rfl:=oJ_ u;exact Rn.bm (n _ (aa_ t))) (λgc g w x q G=>aN.back (N:=N) (o:=dz id (aq so N).nx d.nx) C q R G)
 refine⟨M.1,λF m' A g s w hF hS hA=>(M.2 F m' A g s w hF (hS.forget (by grind) λj p l _=>(get' j p l).2) hA).mono ?_⟩;rintro e w' ⟨v,g',rfl,t,u,D⟩;refine⟨v,g',rfl,t,u.forget (by rw[Nr.2,z];exact Nat.le_add_right _ _) λj p l aT=>?_,D⟩;have H:=u.al j aT;rw[z]at H ⊢;have H:j < T.nx:=H;rw[Nr.1,ab5]at l;show (if j < N then fb so' j else d.get j)=some p;split
 ·grind
 ·grind
theorem ae.iA {fq:QO}(b:aG P w0 f args (aq so N) r (aq so' N)) (h:eV (fq.ev α.tm) (jP.map (·.ev α.tm))=some (f,args)) (c:N<=T.nx) (d:zm so N) (g:∀j o,fb so j=some o->T.get j=some o) (i:zm so' N) (k:∀a ∈ args,ec N a) (l:ec N r) :
  ae P w0 false (.call fq jP) α T r (eP T (wl so' N) false):=ae.call h (b.here c d g i k l false) λe=>by grind
theorem a_.iA {fq:QO}(m:Bool) (l:aG P w0 f args (aq so N) r (aq so' N)) (h:eV (fq.ev α.tm) (jP.map (·.ev α.tm))=some (f,args)) (b:N<=B\/(m=true/\N<=S.nx)) (s:zm so N) (v:iC S so) (F:∀p ∈ so,fb so p.1=some p.2) (w:zm so' N) (x:∀a ∈ args,ec N a) (y:ec N r) :
  a_ P w0 B (.call fq jP) α S r ⟨so,wl so' N,m⟩:=by
 intro n o g;obtain⟨c,u,G,i,z,d⟩:=lV g;refine⟨λH=>(by grind[ql,oQ]),v,λT I A J=>?_⟩;have k:∀q ∈ (.call c:Op).operands,(α.only (dH o)).ev q=α.ev q:=λq C=>gm λt K=>gw (by grind);have D:eV (fq.ev (α.only (dH o)).tm) (jP.map (·.ev (α.only (dH o)).tm))=some (f,args):=by
  rw[<-h,z,d,aW,aW,jt,jt,k u (show u ∈ c.operands by simp[Call.operands,i])];congr 1;exact aF_ λq C=>k q (show q ∈ c.operands by simp[Call.operands,i];exact .inr (by grind))
 refine (ae.call (dr:=false) D (l.here (T:=T) ?_ s (λj o E=>A (j,o) (fp E)) w x y m) (λe=>by grind)) n o g;rcases b with b|⟨e,b⟩
 ·grind
 ·grind
end
section
variable {P:Program}{w0:World}{n B:Nat}{o:Oper}{α:AA}{S:af}{r:AV}
theorem SJ {t e:TypeId}{len:Nat}{parts:Array (Nat × Operand)}{z:Value}(s:o.op=.buildSlice t len parts) (u:P.underlying t=some (.slice e)) (v:d_ P e=some z) (y:ep P e=some sz)
  (h1:len*sz<=16777216) (h2:z.cells.size=sz) (h3:0 < sz) (h:v8 sz (List.replicate len (z.cells.toList.map cK)) (parts.toList.map λ(i,x)=>(i,α.ev x))=some rows):a8 P w0 n o α S (.gr S.nx sz rows.length) (S.new (.arr sz rows 0 false)):=by
 intro A g a w p B;obtain⟨d,b,r,l⟩:=zk h (by rw[<-h2];exact JU (by omega)) (yj B parts.toList);rw[bH_]at l;obtain⟨C,D⟩:=p.new (.cells d e) (.arr sz rows 0 false) len (λJ=>by simp) (λE=>by
  refine⟨d,e,dZ,by rw[r.1,l],by omega,(λh=>by grind),λi row hi=>?_,ax_ _,λq=>⟨λb=>?_,λb=>by grind⟩⟩
  ·obtain⟨q1,F⟩:=r.2 i row hi;refine⟨q1,λj a G=>?_⟩;obtain⟨x,H,I⟩:=F j a G;exact⟨x,H,I.later E⟩
  ·exact absurd (p.dw _ _ b) (by omega))
 refine⟨.slice (some ⟨w.heap.size,0,none⟩) len len,w.alloc (.cells d e),g.new S.nx w.heap.size len,.inl ?_,?_,D,C⟩
 ·have K:¬ (len*sz > 2 ^ 24):=by omega
  rw[h2]at b;simp only[execOp,s,Instr.buildSlice,Sem.run_bind,run_underlying u,Result.andThen_ok,c6 y,if_neg K];by_cases c:len*sz=0
  ·have e0:∀f:Nat->Value,(Array.range (len*sz)).map f=#[]:=λf=>by grind
   rw[e0]at b;have m:Instr.fill (λi=>some (i*sz,sz)) ((Array.range (len*sz)).map λx=>(#[]:Array Value)[x % (#[]:Array Value).size]!) (Array.map (λx=>(x.fst,a.eval x.snd)) parts).toList=some d:=by
    rw[e0,bM_];exact b
   rw[if_pos c];simp only[Sem.run_bind,Sem.run_pure,Result.andThen_ok,m,newRow,run_newObj]
   rfl
  ·have m:Instr.fill (λi=>some (i*sz,sz)) ((Array.range (len*sz)).map λx=>z.cells[x % z.cells.size]!) (Array.map (λx=>(x.fst,a.eval x.snd)) parts).toList=some d:=by
    rw[bM_,h2];exact b
   rw[if_neg c];simp only[Sem.run_bind,o8 v,Sem.run_pure,Result.andThen_ok,m,newRow,run_newObj]
   rfl
 ·have:=aN.gr (g:=g.new S.nx w.heap.size len) (w:=w.alloc (.cells d e)) (k:=S.nx) (sz:=sz) (len:=rows.length) (c:=len) (.inr rfl) (aJ _ _ _).symm (by omega);rw[show (g.new S.nx w.heap.size len).ob S.nx=w.heap.size from aJ _ _ _,l]at this;rw[l];exact this
theorem X5 {op:Op}{r0:List (List AV)}{ps:List (Nat × QO)}(h:res P.toTables op=some (.rows sz r0 ps)):∃t e len parts z,op=.buildSlice t len parts/\P.underlying t=some (.slice e)/\d_ P e=some z/\ep P e=some sz/\len*sz<=16777216/\z.cells.size=sz/\0 < sz/\r0=List.replicate len (z.cells.toList.map cK)/\ps=parts.toList.map λ(i,x)=>(i,qo x):=by
 cases op with
 |buildSlice t len parts =>
  simp only[res,nc,ky,fX]at h;split at h
  ·rename_i e f;split at h
   ·rename_i z n b c;split at h
    ·rename_i a;simp only[oI_,mz.rows.injEq]at h;obtain⟨rfl,rfl,rfl⟩:=h;simp only[al_]at a;have d:P.underlying t=some (.slice e):=by grind[l9]
     exact⟨_,_,_,_,_,rfl,d,b,c,aq_ a.1.1,aH_ a.1.2,lk a.2,rfl,rfl⟩
    ·grind
   all_goals cases h
  ·grind
 |_ =>
  simp only[res]at h
  repeat' split at h
  all_goals cases h
theorem a_.ai0 {r0:List (List AV)}{ps:List (Nat × QO)}(h:v8 sz r0 (ps.map λ(i,x)=>(i,x.ev α.tm))=some rows):a_ P w0 B (.rows sz r0 ps) α S (.gr S.nx sz rows.length) ⟨[],[(S.nx,some (.arr sz rows 0 false))],true⟩:=by
 intro n o f;obtain⟨t,e,len,parts,z,b,g,j,k,l,m,r,rfl,rfl⟩:=X5 f;refine⟨λa=>(by rw[b]at a;cases a),(show iC S [] from λp a=>by grind),λT _ _ s=>?_⟩;have d:T.nx=S.nx:=s rfl;have u:eP T [(S.nx,some (.arr sz rows 0 false))] true=T.new (.arr sz rows 0 false):=by
  rw[<-d];cases T;rfl
 rw[u,<-d];refine (SJ b g j k l m r ?_).ops λc e=>by grind
 have v:∀q ∈ (Op.buildSlice t len parts).operands,(α.only (dH o)).ev q=α.ev q:=λq w=>gm λt y=>gw (by grind);rw[<-h,bl_];congr 1;refine aF_ λp a=>?_;simp only[Function.comp,aW];rw[v p.2 (by simp only[Op.operands];simp;exact⟨p.1,by grind⟩)]
theorem U6 {o:Oper}{k len:Nat}(b:res P.toTables o.op=some (.slice (.sl sz) x none (some hi) none)) (r:x.ev α.tm=.gr k sz len) (D:S.get k=some (.arr sz rows 0 ex)) (hn:len=rows.length) (s:hi.ev α.tm=.v (.int ik j)) (p:j=h) (aw:h < len) :
  a8 P w0 n o α S (.gr k sz h) (S.set k (some (.arr sz (rows.take h) 0 false))):=by
 obtain⟨t,u,v,e,E,rfl,rfl,y,F⟩:∃t u v e,o.op=.slice t u none (some v) none/\x=qo u/\hi=qo v/\P.underlying t=some (.slice e)/\ep P e=some sz:=by
  generalize o.op=op at b;cases op with
  |slice t u z p G =>
   simp only[res,cF,fX]at b;split at b
   ·grind
   ·rename_i e H;split at b
    ·rename_i m I;simp only[oI_,mz.slice.injEq,SK.sl.injEq]at b;obtain⟨rfl,rfl,d,f,K⟩:=b;cases z with
     |some _=>cases d
     |none =>
      cases G with
      |some _=>cases K
      |none =>
       cases p with
       |none=>cases f
       |some v=>exact⟨t,u,v,e,rfl,rfl,(oJ_ f).symm,H,I⟩
    ·grind
   ·grind
  |_ =>
   simp only[res]at b
   repeat' split at b
   all_goals cases b
 rw[aW]at r s;intro A g a w L q;have d:=q.ev u;have f:=q.ev v;rw[r]at d;rw[s]at f;rcases r_ d with ⟨rfl,_⟩|⟨M,c,N,O,Q⟩
 ·omega
 ·have B:=nU (P:=P) (isSl:=true) (len:=len) (cap:=c) (w:=w) (lo:=none) (hi:=some v) (l:=0) (h:=j) q rfl (by grind[mK]) (bf_ _) (by omega) (by omega);have R:(Instr.slice t (a.eval u) none (some (a.eval v)) none).run P w=.ok (.slice (some ⟨g.ob k,0,none⟩) h c) w:=by
   subst p;simp only[bj_,aE_]at B;simp[Instr.slice,N,run_underlying y,B,c6 F,jh]
  have T:St w0 A g (S.set k (some (.arr sz (rows.take h) 0 false))) w:=by
   refine L.WE (ac_ _) λi U hi ha=>?_;have hi:bE S.get k (some (.arr sz (rows.take h) 0 false)) i=some U:=hi;by_cases V:i=k
   ·subst V;rw[aJ]at hi;obtain rfl:=oJ_ hi;refine⟨_,D,λW=>?_,λJ h=>by grind⟩;obtain⟨X,Y,Z,p2,p3,p4,p5,p6,p7⟩:=W;refine⟨X,Y,Z,p2,by grind,(λh=>by grind),λi row hi=>?_,ax_ _,p7⟩;rw[bG_]at hi;split at hi
    ·grind
    ·grind
   ·grind[aO]
  refine⟨_,w,g,.inl ?_,.gr M O (by omega),T,Ext.refl ..⟩;simp only[execOp,E,Sem.run_bind,bj_,aE_,Bn y (λ_ _ h=>by grind),R,Result.andThen_ok]
  rfl
theorem ae.ai1 {k len:Nat}(a:x.ev α.tm=.gr k sz len) (b:S.get k=some (.arr sz rows 0 ex)) (c:len=rows.length) (d:hi.ev α.tm=.v (.int ik j)) (e:j=h) (f:h < len) :
  ae P w0 false (.slice (.sl sz) x none (some hi) none) α S (.gr k sz h) (S.set k (some (.arr sz (rows.take h) 0 false))):=ae.run λn o g=>U6 g a b c d e f
end
theorem I1 {G H:Nat->Option Ob}{k:Nat}:∀{W:List (Nat × Option Ob)},k ∈ W.map (·.1)->er G W k=er H W k
 |[],h=>by grind
 |p::W,h=>by
  by_cases e:k=p.1
  ·subst e;rw[er,er,aJ,aJ]
  ·rw[er,er,aO _ _ e,aO _ _ e];exact I1 ((ad_.1 h).resolve_left e)
theorem jF.sub {ι:Nat->Nat}{M:Nat}{T b:af}(h:∀k o,T.get k=some o->k < T.nx->b.get k=some o) (c:∀j,j < M->ι j < T.nx):∀{l:List (Nat × Ob)},l.all (λp=>Nat.blt p.1 M)=true->jF ι M T l->jF ι M b l
 |[],_,_=>trivial
 |p::l,a,d=>by
  rw[aY_,al_]at a;obtain⟨e,f,g⟩:=d.1;exact⟨⟨e,h _ _ f (c _ (lk a.1)),g⟩,jF.sub h c a.2 d.2⟩
section
variable {P:Program}{w0:World}{N N' B n:Nat}{so so':List (Nat × Ob)}{S T:af}{α:AA}{f:FuncId}{args args₀:List AV}{r r₀:AV}{m:List (Nat × Nat)}{to:List (Nat × Option Ob)}
theorem aG.aaq (h:aG P w0 f args (aq so N) r (aq so' N')) (z:wM (aU m) N args₀ args) (B:Rb (dz (aU m) N T.nx) r r₀) (hi:vj (aU m) (List.range N)=true) (t:(List.range N).all (λj=>Nat.blt (aU m j) T.nx)=true) (u:jF (aU m) N T so) (c:so.all (λp=>Nat.blt p.1 N)=true)
  (C:gT (dz (aU m) N T.nx) so' to) (J:(List.range N).all (λj=>(to.map (·.1)).contains (aU m j))=true) (K:(List.range N').all (λj=>(to.map (·.1)).contains (T.nx+j))=true) (L:za so'=true) {e:Nat}(V:N'<=e):aG P w0 f args₀ T r₀ ⟨er T.get to,T.nx+e⟩:=by
 obtain⟨l,D⟩:∃l:af,l=⟨λk=>if k < T.nx then T.get k else none,T.nx⟩:=⟨_,rfl⟩;have get':∀k o,l.get k=some o->k < T.nx/\T.get k=some o:=λk o c=>by
  rw[D]at c;have c:(if k < T.nx then T.get k else none)=some o:=c;split at c
  ·grind
  ·grind
 have E:l.nx=T.nx:=by grind
 have G:∀k o,T.get k=some o->k < T.nx->l.get k=some o:=λk o h c=>by
  rw[D];show (if k < T.nx then T.get k else none)=some o;rw[if_pos c];exact h
 rw[<-E]at B t C;have M:∀j,j < N->aU m j < T.nx:=λj d=>by
  have:=lk (aP_.1 t j (aI_.2 d))
  rwa [E]at this
 have x:=PO (N':=N') hi t (u.sub G M c) C J (by simp) (λk o c=>by grind) (.inr L);have H:=h.frame x z.at.1 (λi a b q s=>by
  obtain⟨W,y,O⟩:=z.at.2 i b s;rw[y]at q;rw[<-oJ_ q];exact O) B
 refine⟨H.1,λF Q A g n w x u R=>(H.2 F Q A g n w x (u.forget (by grind) λj p d _=>(get' j p d).2) R).mono ?_⟩;rintro X Y ⟨v,S,rfl,q,s,y⟩;refine⟨v,S,rfl,q,s.forget (by grind) λj p d U=>?_,y⟩;have Z:j < l.nx+N':=s.al j U;have d:er T.get to j=some p:=d;show er l.get to j=some p;by_cases I:j ∈ to.map (·.1)
 ·grind[I1]
 ·rw[nV I]at d ⊢;refine G j p d ?_;by_cases h5:j < T.nx
  ·grind
  ·exfalso;refine I ?_;have:=aP_.1 K (j - T.nx) (aI_.2 (by omega));rw[show T.nx+(j - T.nx)=j by omega]at this;simpa using this
theorem ae.jK {fq:QO}(m:List (Nat × Nat)) (to:List (Nat × Option Ob)) (a:aG P w0 f args (aq so N) r (aq so' N')) (h:eV (fq.ev α.tm) (jP.map (·.ev α.tm))=some (f,args₀)) (b:wM (aU m) N args₀ args) (c:Rb (dz (aU m) N T.nx) r r₀) (d:jF (aU m) N T so) (g:gT (dz (aU m) N T.nx) so' to)
  (hi:vj (aU m) (List.range N)=true:=by rfl) (i:(List.range N).all (λj=>Nat.blt (aU m j) T.nx)=true:=by rfl) (k:so.all (λp=>Nat.blt p.1 N)=true:=by rfl) (l:(List.range N).all (λj=>(to.map (·.1)).contains (aU m j))=true:=by rfl) (n:(List.range N').all (λj=>(to.map (·.1)).contains (T.nx+j))=true:=by rfl) (o:za so'=true:=by rfl) :
  ae P w0 false (.call fq jP) α T r₀ ⟨er T.get to,T.nx+N'⟩:=ae.call h (a.aaq b c hi i d k g l n o (ac_ _)) λe=>by grind
theorem a_.jK {fq:QO}(m:List (Nat × Nat)) (F:List (Nat × Ob)) (to:List (Nat × Option Ob)) (v:aG P w0 f args (aq so N) r (aq so' N')) (h:eV (fq.ev α.tm) (jP.map (·.ev α.tm))=some (f,args₀)) (w:wM (aU m) N args₀ args) (b:Rb (dz (aU m) N S.nx) r r₀) (x:iC S F) (y:∀T,iC T F->jF (aU m) N T so) (d:gT (dz (aU m) N S.nx) so' to)
  (hi:vj (aU m) (List.range N)=true:=by rfl) (g:(List.range N).all (λj=>Nat.blt (aU m j) S.nx)=true:=by rfl) (z:so.all (λp=>Nat.blt p.1 N)=true:=by rfl) (A:(List.range N).all (λj=>(to.map (·.1)).contains (aU m j))=true:=by rfl) (i:(List.range N').all (λj=>(to.map (·.1)).contains (S.nx+j))=true:=by rfl) (C:za so'=true:=by rfl) (D:Nat.ble N' (F3 to true)=true:=by rfl) :
  a_ P w0 B (.call fq jP) α S r₀ ⟨F,to,true⟩:=by
 intro n o k;obtain⟨c,u,K,l,E,a⟩:=lV k;refine⟨λL=>(by grind[ql,oQ]),x,λT M G H=>?_⟩;have e:T.nx=S.nx:=H rfl;have s:∀q ∈ (.call c:Op).operands,(α.only (dH o)).ev q=α.ev q:=λq I=>gm λt O=>gw (by grind);have J:eV (fq.ev (α.only (dH o)).tm) (jP.map (·.ev (α.only (dH o)).tm))=some (f,args₀):=by
  rw[<-h,E,a,aW,aW,jt,jt,s u (show u ∈ c.operands by simp[Call.operands,l])];congr 1;exact aF_ λq I=>s q (show q ∈ c.operands by simp[Call.operands,l];exact .inr (by grind))
 rw[<-e]at b d g i;rw[gj];exact (ae.call (dr:=false) J (v.aaq w b hi g (y T G) z d A i C (aq_ D)) (λe=>by grind)) n o k
end
section
variable {P:Program}{w0:World}{rd:Bool}{n:Nat}{Q:Exit->AA->af->Prop}{α:AA}{S:af}{l:List QI}{K:List f_}{T:Type}{ρ:Hd}{f:T->AV}{kv:List (Int × T)}
theorem ae.Ns {z:AV}{c:Bool}{i:QO}{k:Nat}{m:Int}(d:x.ev α.tm=.mp k) (h:S.get k=some (.mb es)) (j:oB es) (hi:i.ev α.tm=.v (.int .i64 m)) :
  ae P w0 true (.look z c x i) α S (match se es m with|some a=>(if c then .aL [a,.v (.bool true)] else a)|none=>(if c then .aL [z,.v (.bool false)] else z)) S:=by
 intro n o l;obtain⟨t,u,v,G,H,I,J,b,rfl,rfl,p,q,r,rfl⟩:=Fv l;rw[aW]at d hi;have e:∀y ∈ [u,v],(α.only (dH o)).ev y=α.ev y:=λy s=>gm λt B=>gw (by rw[b];simp[Op.operands,<-B];simpa using s);refine⟨(CT b p q r (by rw[e u (by simp)];exact d) (λA g w C D=>?_) j (by rw[e v (by simp)];exact hi)).ops λc e=>(by grind),λf=>(by rw[b]at f;cases f),λ_=>rfl⟩;obtain⟨_,_,entries,q1,E,F,_⟩:=C.cT k _ h D;exact⟨entries,_,q1,E,F⟩
theorem ad.Ns {z:AV}{c:Bool}{i:QO}{k:Nat}{m:Int}(b:bG α.tm g=some true) (e:x.ev α.tm=.mp k) (j:S.get k=some (.mb (ρ.h (dW f) kv))) (hi:i.ev α.tm=.v (.int .i64 m))
  (o:∀v,aH kv m=some v->ad P w0 rd n Q (.bc true l K) (bP d α (if c then .aL [f v,.v (.bool true)] else f v)) S) (p:aH kv m=none->ad P w0 rd n Q (.bc true l K) (bP d α (if c then .aL [z,.v (.bool false)] else z)) S) :
  ad P w0 rd n Q (.bc true (⟨d,g,.look z c x i⟩::l) K) α S:=by
 have h:=ae.Ns (P:=P) (w0:=w0) (z:=z) (c:=c) e j (by rw[ρ.eq];exact rq) hi;rw[ρ.eq,x_]at h;refine ad.op (i:=⟨d,g,.look z c x i⟩) b h ?_;cases a:aH kv m with
 |some v=>exact o v a
 |none=>exact p a
end
section
variable {ι:Nat->Nat}{M:Nat}
theorem lj.mb (h:∀e ∈ es,Pure e.2):lj ι M (.mb es) (.mb es):=by
 refine⟨λg w b cp c=>?_,λJ h=>by grind⟩;obtain⟨entries,f,j,l,m⟩:=c;refine⟨entries,f,j,λi k a d=>?_,m⟩;obtain⟨e,n,o,c⟩:=l i k a d;exact⟨e,n,o,Rn.pure (h _ (aa_ d)) g w _ c⟩
theorem me.mb (h:∀e ∈ es,Pure e.2):me ι (.mb es) (.mb es):=by
 refine⟨λgc g w b cp f _ c=>?_,λJ h=>by grind⟩;obtain⟨entries,j,l,m,n⟩:=c;refine⟨entries,j,l,λi k a d=>?_,n⟩;obtain⟨e,o,p,c⟩:=m i k a d;exact⟨e,o,p,Rb.pure (h _ (aa_ d)) gc g w _ f c⟩
end
section
variable {P:Program}{w0:World}{rd:Bool}{n:Nat}{Q:Exit->AA->af->Prop}{α:AA}{S:af}{l:List QI}{K:List f_}{T:Type}{ρ:Hd}{f:T->List AV}{acc:List T}
theorem ae.ai2 {by_ t k len:Nat}{ex':Bool}{b:QO}{more:List (List AV)}{x:List AV}(f:α.tm t=.gr k sz len) (g:S.get k=some (.arr sz rows 0 ex)) (h:len=rows.length) (i:∀c,b.ev (bE α.tm t c)=b.ev α.tm) (j:b.ev α.tm=.sl ex' (x::more))
  (h3:∀row ∈ x::more,row.length=sz/\row.all dh=true) (h4:(len+(x::more).length)*by_<=35184372088832):ae P w0 true (.append sz by_ (.t t) b) α S (.gr S.nx sz (len+(x::more).length)) ((S.set k none).new (.arr sz (rows++x::more) 0 false)):=by
 intro n o a;obtain⟨p,l,m⟩:=a_.im (P:=P) (w0:=w0) (B:=0) f g h i j h3 h4 n o a;have d:=m S (ax_ _) l (λ_=>rfl);rw[gj]at d;obtain⟨c,t2,t3,u,v,e,q,z,r,s,_⟩:=pG a;exact⟨d,λw=>(by grind[wF]),λy=>(by grind[Dk])⟩
theorem ad.dU {a:Option Nat}{d:Option (Nat × Bool)}{t:Nat}{b:QO}{by_ k len:Nat}{ex':Bool}(x:T) (m:bG α.tm d=some true) (h1:α.tm t=.gr k sz len) (o:S.get k=some (.arr sz (ρ.h (List.map f) acc) 0 ex)) (r:len=acc.length) (p:∀c,b.ev (bE α.tm t c)=b.ev α.tm)
  (q:b.ev α.tm=.sl ex' [f x]) (s:(f x).length=sz) (u:(f x).all dh=true) (v:(len+1)*by_<=35184372088832)
  (kk:∀g j,g=acc++[x]->j=g.length->ad P w0 rd n Q (.bc true l K) (bP a α (.gr S.nx sz j)) ((S.set k none).new (.arr sz (ρ.h (List.map f) g) 0 false))):ad P w0 rd n Q (.bc true (⟨a,d,.append sz by_ (.t t) b⟩::l) K) α S:=by
 have hlen:(ρ.h (List.map f) acc).length=acc.length:=au;have h:=kk _ _ rfl rfl;have e:ρ.h (List.map f) acc++[f x]=ρ.h (List.map f) (acc++[x]):=by rw[ρ.eq,ρ.eq,aM_];rfl
 rw[<-e,show (acc++[x]).length=len+[f x].length by grind]at h;exact ad.op (i:=⟨a,d,.append sz by_ (.t t) b⟩) m (ae.ai2 (x:=f x) (more:=[]) h1 o (by omega) p q (λrow w=>by grind) (by grind)) h
end
section
attribute [local irreducible] ah aG ae ad
def ai3:FQ 196 Tryz.f196:=aF Tryz.func196 Tryz.call196
def Nt:List Nat:=[7,8,0,6,1,2]
def ai4:FQ 197 Tryz.f197:=aF Tryz.func197 Tryz.call197
def iK:List Nat:=[0,1,2,10,7,30,9,41,6,11,57,13,12,73]
section
variable {w0:World}{ρ:Hd}
theorem ab6 {s:PS}{i k:Nat}{t g:Tm}{l D:List Nat}(hi:s.N[i]?=some (t,l)) (o:s.N[k]?=some (g,D)) (h1:t.n.size<=1099511627776) (h2:g.n.size<=1099511627776) (h3:t.a.length<=1099511627776) (h4:g.a.length<=1099511627776) :
  aG Tryz.prog w0 196 [.pt 0 6 0 0,iv i,iv k] (aq (gS ρ s kn) 7) (.v (.bool (qu t g))) (aq (gS ρ s kn) 7):=by
 obtain⟨N,vs,up,sh,ls⟩:=s;dsimp only at hi o;have q:=(ar_.1 hi).1;have r:=(ar_.1 o).1;have u:=bW (ρ:=ρ) (f:=vQ ρ) hi;have v:=bW (ρ:=ρ) (f:=vQ ρ) o;obtain⟨w,x,k3,k4⟩:=t;obtain⟨y,z,A,B⟩:=g;simp only[vQ]at u v;obtain⟨R,p⟩:∃R,R=qu ⟨w,x,k3,k4⟩ ⟨y,z,A,B⟩:=⟨_,rfl⟩;rw[<-p];have j:R=true ↔ w=y/\x=z/\k3.toList=A.toList/\(k4.length:Int)=B.length:=by
  rw[p];unfold qu;simp only[al_,beq_iff_eq,decide_eq_true_eq,and_assoc];exact and_congr ci_ (and_congr ci_ (and_congr ci_ (by omega)))
 clear p;obtain⟨ul,E⟩:∃ul,ul=up.length:=⟨_,rfl⟩;obtain⟨nl,C⟩:∃nl,nl=N.length:=⟨_,rfl⟩;rw[<-C]at q r;simp only[gS,<-E,<-C];refine sc 7 7 ai3 ?_;refine gq Nt ?_;refine ad.cP rfl (λT=>ae.dg rfl rfl rfl q) ?_;refine ad.cP rfl (λT=>ae.quiet rfl) ?_;refine ad.eW rfl (a_.fk rfl rfl u rfl) ?_;refine gq Nt ?_;refine ad.cP rfl (λT=>ae.dg rfl rfl rfl r) ?_;refine ad.cP rfl (λT=>ae.quiet rfl) ?_;refine ad.eW rfl (a_.fk rfl rfl v rfl) ?_;refine gq Nt ?_
 repeat' (first
  |refine cg Nt (λn=>?_) λn=>?_
  |refine lg Nt λm F=>?_
  |(refine fq ?_))
 all_goals first
  |(have e:R=true:=j.2 ⟨by assumption,by assumption,by assumption,by omega⟩
    rw[e];exact⟨[],.aC .v,gC,rfl⟩)
  |(have e:R=false:=by
      rw[dg_];intro h;obtain⟨a,b,c,d⟩:=j.1 h
      first|exact n a|exact n b|exact n c|omega
    rw[e];exact⟨[],.aC .v,gC,rfl⟩)
theorem ab7 {s:PS}{a b:Nat}(d:b < s.js.up.length) :
  aG Tryz.prog w0 197 [.pt 0 6 0 0,iv a,iv b] (aq (gS ρ s kn) 7) (.aL []) (aq (gS ρ ⟨s.N,s.vs,⟨s.js.up.set b a,lZ s.js.sh a b,lq s.js.ls a b⟩⟩ kn) 7):=by
 obtain⟨N,vs,up,sh,ls⟩:=s;dsimp only at d;obtain⟨p,e⟩:∃p,p=lZ sh a b:=⟨_,rfl⟩;obtain⟨q,c⟩:∃q,q=lq ls a b:=⟨_,rfl⟩;obtain⟨ul,r⟩:∃ul,ul=up.length:=⟨_,rfl⟩;obtain⟨nl,t⟩:∃nl,nl=N.length:=⟨_,rfl⟩;have x:b < ul:=by omega
 simp only[gS,aV_,<-r,<-t,<-e,<-c];unfold lZ at e;unfold lq at c;obtain⟨z,m⟩:∃z:Int,z=a:=⟨_,rfl⟩;obtain⟨A,n⟩:∃A:Int,A=b:=⟨_,rfl⟩;rw[<-m,<-n]at e c ⊢;refine sc 7 7 ai4 ?_;refine gq iK ?_;refine ad.op rfl (ae.dg rfl rfl n x) ?_;refine ad.Dj (f:=c8) (y:=a) rfl rfl rfl (by rw[c8,<-m];rfl) rfl (λ_=>rfl) rfl d (λu B=>?_);rw[<-B];clear m n r t B d x;refine gq iK ?_;refine ad.look (ρ:=ρ) (f:=iv) (kv:=sh) rfl rfl rfl rfl (λk o=>?_) (λo=>?_)
 ·rw[o]at e;refine gq iK ?_;refine ad.look (ρ:=ρ) (f:=iv) (kv:=sh) rfl rfl rfl rfl (λi hi=>?_) (λhi=>?_)
  ·rw[hi]at e;refine gq iK ?_;simp only at e;obtain rfl:=e;refine ad.g_ (ρ:=ρ) (f:=iv) (kv:=ls) rfl rfl rfl rfl (λv j=>?_) (λj=>?_)<;>rw[j]at c<;>simp only at c
   ·refine gq iK ?_;refine ad.g_ (ρ:=ρ) (f:=iv) (kv:=ls) rfl rfl rfl rfl (λw l=>?_) (λl=>?_)<;>rw[l]at c<;>simp only at c
    ·refine gq iK ?_;refine cn (λd=>?_) λd=>?_
     ·rw[if_pos d]at c;refine gq iK ?_;refine ad.yu (ρ:=ρ) (f:=iv) (kv:=ls) (v:=v) rfl rfl rfl rfl rfl (λkv g=>?_);rw[<-g]at c;obtain rfl:=c;refine gq iK ?_;refine fq ?_;exact⟨[],.aC (.aL λ_ h=>by grind),gC,rfl⟩
     ·rw[if_neg d]at c;obtain rfl:=c;refine gq iK ?_;refine fq ?_;exact⟨[],.aC (.aL λ_ h=>by grind),gC,rfl⟩
    ·refine gq iK ?_;refine ad.yu (ρ:=ρ) (f:=iv) (kv:=ls) (v:=v) rfl rfl rfl rfl rfl (λkv g=>?_);rw[<-g]at c;obtain rfl:=c;refine gq iK ?_;refine fq ?_;exact⟨[],.aC (.aL λ_ h=>by grind),gC,rfl⟩
   ·obtain rfl:=c;refine gq iK ?_;refine fq ?_;exact⟨[],.aC (.aL λ_ h=>by grind),gC,rfl⟩
  ·rw[hi]at e;refine gq iK ?_;refine ad.oD (ρ:=ρ) (f:=iv) (kv:=sh) (v:=k) rfl rfl rfl rfl rfl (λkv g=>?_);simp only at e;rw[<-g]at e;obtain rfl:=e;refine gq iK ?_;refine ad.g_ (ρ:=ρ) (f:=iv) (kv:=ls) rfl rfl rfl rfl (λv j=>?_) (λj=>?_)<;>rw[j]at c<;>simp only at c
   ·refine gq iK ?_;refine ad.g_ (ρ:=ρ) (f:=iv) (kv:=ls) rfl rfl rfl rfl (λw l=>?_) (λl=>?_)<;>rw[l]at c<;>simp only at c
    ·refine gq iK ?_;refine cn (λd=>?_) λd=>?_
     ·rw[if_pos d]at c;refine gq iK ?_;refine ad.yu (ρ:=ρ) (f:=iv) (kv:=ls) (v:=v) rfl rfl rfl rfl rfl (λkv g=>?_);rw[<-g]at c;obtain rfl:=c;refine gq iK ?_;refine fq ?_;exact⟨[],.aC (.aL λ_ h=>by grind),gC,rfl⟩
     ·rw[if_neg d]at c;obtain rfl:=c;refine gq iK ?_;refine fq ?_;exact⟨[],.aC (.aL λ_ h=>by grind),gC,rfl⟩
    ·refine gq iK ?_;refine ad.yu (ρ:=ρ) (f:=iv) (kv:=ls) (v:=v) rfl rfl rfl rfl rfl (λkv g=>?_);rw[<-g]at c;obtain rfl:=c;refine gq iK ?_;refine fq ?_;exact⟨[],.aC (.aL λ_ h=>by grind),gC,rfl⟩
   ·obtain rfl:=c;refine gq iK ?_;refine fq ?_;exact⟨[],.aC (.aL λ_ h=>by grind),gC,rfl⟩
 ·rw[o]at e;refine gq iK ?_;simp only at e;obtain rfl:=e;refine ad.g_ (ρ:=ρ) (f:=iv) (kv:=ls) rfl rfl rfl rfl (λv j=>?_) (λj=>?_)<;>rw[j]at c<;>simp only at c
  ·refine gq iK ?_;refine ad.g_ (ρ:=ρ) (f:=iv) (kv:=ls) rfl rfl rfl rfl (λw l=>?_) (λl=>?_)<;>rw[l]at c<;>simp only at c
   ·refine gq iK ?_;refine cn (λd=>?_) λd=>?_
    ·rw[if_pos d]at c;refine gq iK ?_;refine ad.yu (ρ:=ρ) (f:=iv) (kv:=ls) (v:=v) rfl rfl rfl rfl rfl (λkv g=>?_);rw[<-g]at c;obtain rfl:=c;refine gq iK ?_;refine fq ?_;exact⟨[],.aC (.aL λ_ h=>by grind),gC,rfl⟩
    ·rw[if_neg d]at c;obtain rfl:=c;refine gq iK ?_;refine fq ?_;exact⟨[],.aC (.aL λ_ h=>by grind),gC,rfl⟩
   ·refine gq iK ?_;refine ad.yu (ρ:=ρ) (f:=iv) (kv:=ls) (v:=v) rfl rfl rfl rfl rfl (λkv g=>?_);rw[<-g]at c;obtain rfl:=c;refine gq iK ?_;refine fq ?_;exact⟨[],.aC (.aL λ_ h=>by grind),gC,rfl⟩
  ·obtain rfl:=c;refine gq iK ?_;refine fq ?_;exact⟨[],.aC (.aL λ_ h=>by grind),gC,rfl⟩
end
end
section
attribute [local irreducible] ah aG ae ad
def ai5:FQ 136 Tryz.f136:=aF Tryz.func136 Tryz.call136
def fD:List Nat:=[0,1,76,5,6,7,8,10,4,16,39,9,11,61,66,75,77,74,13,12]
def ue (p:Nat × Nat):List AV:=[iv p.1,iv p.2]
def Dl (ρ:Hd) (ps:List (Nat × Nat)):Ob:=.arr 2 (ρ.h (List.map ue) ps) 0 false
theorem QL {B:Nat}(ps:List (Nat × Nat)):h_ B (Dl ρ ps):=by
 show ∀row ∈ ρ.h (List.map ue) ps,∀a ∈ row,ec B a;rw[ρ.eq];intro row c a b;obtain⟨x,_,rfl⟩:=av_.1 c;simp only[ue,ad_,as_,or_false]at b;rcases b with rfl|rfl<;>exact .v
def gX (ρ:Hd) (nl ul:Nat) (N:aS) (vs:List (Int × Int)) (up:List Nat) (sh ls:List (Int × Int)) (kn:KN):List (Nat × Ob):=[(0,gO nl ul),(1,fS ρ N),(2,bZ ρ vs),(3,cI ρ up),(4,fT ρ sh),(5,bZ ρ ls),(6,fU ρ kn)]
theorem jq {N:aS}{sh:List (Int × Int)}(a:nl=N.length) (b:up.length=ul):gX ρ nl ul N vs up sh ls kn=gS ρ ⟨N,vs,⟨up,sh,ls⟩⟩ kn:=by subst a;subst b;rfl
theorem dJ {N:aS}{sh:List (Int × Int)}{B:Nat}(h:6 < B):zm (gX ρ nl ul N vs up sh ls kn) B:=⟨λj o a=>by
 unfold gX at a;have:=fp a;simp only[ad_,pI_,as_,or_false]at this;rcases this with ⟨rfl,rfl⟩|⟨rfl,rfl⟩|⟨rfl,rfl⟩|⟨rfl,rfl⟩|⟨rfl,rfl⟩|⟨rfl,rfl⟩|⟨rfl,rfl⟩
 ·exact⟨by omega,o6 h,λJ=>by simp[gO]⟩
 ·exact⟨by omega,mq _,λJ=>by simp[fS]⟩
 ·exact⟨by omega,eK _,λJ=>by simp[bZ]⟩
 ·exact⟨by omega,fy _,λJ=>by simp[cI]⟩
 ·exact⟨by omega,lQ _,λJ=>by simp[fT]⟩
 ·exact⟨by omega,eK _,λJ=>by simp[bZ]⟩
 ·exact⟨by omega,lP _,λJ=>by simp[fU]⟩⟩
theorem I2 {N:aS}{sh:List (Int × Int)}:∀p ∈ gX ρ nl ul N vs up sh ls kn,fb (gX ρ nl ul N vs up sh ls kn) p.1=some p.2:=by
 intro p a;unfold gX at a ⊢;simp only[ad_,as_,or_false]at a;rcases a with rfl|rfl|rfl|rfl|rfl|rfl|rfl<;>rfl
theorem HE {N:aS}{sh:List (Int × Int)}(h0:T.get 0=some (gO nl ul):=by rfl) (h1:T.get 1=some (fS ρ N):=by rfl) (h2:T.get 2=some (bZ ρ vs):=by rfl) (h3:T.get 3=some (cI ρ up):=by rfl) (h4:T.get 4=some (fT ρ sh):=by rfl) (h5:T.get 5=some (bZ ρ ls):=by rfl) (h6:T.get 6=some (fU ρ kn):=by rfl):iC T (gX ρ nl ul N vs up sh ls kn):=by
 intro p a;unfold gX at a;simp only[ad_,as_,or_false]at a;rcases a with rfl|rfl|rfl|rfl|rfl|rfl|rfl<;>assumption
theorem oq {N:aS}{sh:List (Int × Int)}(h0:T.get 0=some (gO nl ul):=by rfl) (h1:T.get 1=some (fS ρ N):=by rfl) (h2:T.get 2=some (bZ ρ vs):=by rfl) (h3:T.get 3=some (cI ρ up):=by rfl) (h4:T.get 4=some (fT ρ sh):=by rfl) (h5:T.get 5=some (bZ ρ ls):=by rfl) (h6:T.get 6=some (fU ρ kn):=by rfl):∀j o,fb (gX ρ nl ul N vs up sh ls kn) j=some o->T.get j=some o:=λj o a=>HE (h0:=h0) (h1:=h1) (h2:=h2) (h3:=h3) (h4:=h4) (h5:=h5) (h6:=h6) (j,o) (fp a)
theorem s8 {a:AV}(h:0 < N) (d:Pure a):∀b ∈ [AV.pt 0 6 0 0,a],ec N b:=by
 intro b c;simp only[ad_,as_,or_false]at c;rcases c with rfl|rfl
 ·exact .pt h
 ·exact Pure.bm d
theorem Dm {a c:AV}(h:0 < N) (e:Pure a) (f:Pure c):∀b ∈ [AV.pt 0 6 0 0,a,c],ec N b:=by
 intro b d;simp only[ad_,as_,or_false]at d;rcases d with rfl|rfl|rfl
 ·exact .pt h
 ·exact Pure.bm e
 ·exact Pure.bm f
section
variable {P:Program}{w0:World}{rd dr:Bool}{n:Nat}{Q:Exit->AA->af->Prop}{α:AA}{S:af}{l:List QI}{K:List f_}{T:Type}{ρ:Hd}{f:T->List AV}
theorem ad.anl {k len:Nat}{xs xs0:List T}(a:bG α.tm g=some true) (b:x.ev α.tm=.gr k sz len) (c:S.get k=some (.arr sz (ρ.h (List.map f) xs) 0 ex)) (m:len=xs.length) (o:hi.ev α.tm=.v (.int ik j)) (p:j=h) (q:h < len) (h0:xs.take h=xs0)
  (kk:ad P w0 rd n Q (.bc false l K) (bP d α (.gr k sz h)) (S.set k (some (.arr sz (ρ.h (List.map f) xs0) 0 false)))):ad P w0 rd n Q (.bc false (⟨d,g,.slice (.sl sz) x none (some hi) none⟩::l) K) α S:=by
 have e:(ρ.h (List.map f) xs).take h=ρ.h (List.map f) xs0:=by rw[ρ.eq,ρ.eq,<-List.map_take,h0]
 refine ad.op (i:=⟨d,g,.slice (.sl sz) x none (some hi) none⟩) a (ae.ai1 b c (by rw[ρ.eq,aU_];exact m) o p q) ?_;rw[e];exact kk
end
theorem gC8 {m:List (Nat × Nat)}{sh:List (Int × Int)}(h0:S.get 0=some (gO nl ul):=by rfl) (h1:S.get 1=some (fS ρ Nd):=by rfl) (h2:S.get 2=some (bZ ρ vs):=by rfl) (h3:S.get 3=some (cI ρ up):=by rfl)
  (h4:S.get 4=some (fT ρ sh):=by rfl) (h5:S.get 5=some (bZ ρ ls):=by rfl) (h6:S.get 6=some (fU ρ kn):=by rfl):fO 8 m N S [(0,gO nl ul),(1,fS ρ Nd),(2,bZ ρ vs),(3,cI ρ up),(4,fT ρ sh),(5,bZ ρ ls),(6,fU ρ kn)] :=
 ⟨.inl ⟨_,h0,.same (o6 (by omega))⟩,.inl ⟨_,h1,.same (mq _)⟩,.inl ⟨_,h2,.same (eK _)⟩,.inl ⟨_,h3,.same (fy _)⟩,.inl ⟨_,h4,.same (lQ _)⟩,.inl ⟨_,h5,.same (eK _)⟩,.inl ⟨_,h6,.same (lP _)⟩,trivial⟩
theorem QM {j:Nat}{sh:List (Int × Int)}(a:S.get j=some (Dl ρ ps):=by rfl) (h0:S.get 0=some (gO nl ul):=by rfl) (h1:S.get 1=some (fS ρ Nd):=by rfl) (h2:S.get 2=some (bZ ρ vs):=by rfl) (h3:S.get 3=some (cI ρ up):=by rfl)
  (h4:S.get 4=some (fT ρ sh):=by rfl) (h5:S.get 5=some (bZ ρ ls):=by rfl) (h6:S.get 6=some (fU ρ kn):=by rfl):fO 8 [(8,j)] N S [(0,gO nl ul),(1,fS ρ Nd),(2,bZ ρ vs),(3,cI ρ up),(4,fT ρ sh),(5,bZ ρ ls),(6,fU ρ kn),(8,Dl ρ ps)] :=
 ⟨.inl ⟨_,h0,.same (o6 (by omega))⟩,.inl ⟨_,h1,.same (mq _)⟩,.inl ⟨_,h2,.same (eK _)⟩,.inl ⟨_,h3,.same (fy _)⟩,.inl ⟨_,h4,.same (lQ _)⟩,.inl ⟨_,h5,.same (eK _)⟩,.inl ⟨_,h6,.same (lP _)⟩,.inl ⟨_,a,.same (QL _)⟩,trivial⟩
theorem afo {j:Nat}{sh:List (Int × Int)}(a:S.get j=some (Dl ρ ps):=by rfl) (h0:S.get 0=some (gO nl ul):=by rfl) (h1:S.get 1=some (fS ρ Nd):=by rfl) (h2:S.get 2=some (bZ ρ vs):=by rfl) (h3:S.get 3=some (cI ρ up):=by rfl)
  (h4:S.get 4=some (fT ρ sh):=by rfl) (h5:S.get 5=some (bZ ρ ls):=by rfl) (h6:S.get 6=some (fU ρ kn):=by rfl):fO 9 [(9,j)] N S [(0,gO nl ul),(1,fS ρ Nd),(2,bZ ρ vs),(3,cI ρ up),(4,fT ρ sh),(5,bZ ρ ls),(6,fU ρ kn),(9,Dl ρ ps)] :=
 ⟨.inl ⟨_,h0,.same (o6 (by omega))⟩,.inl ⟨_,h1,.same (mq _)⟩,.inl ⟨_,h2,.same (eK _)⟩,.inl ⟨_,h3,.same (fy _)⟩,.inl ⟨_,h4,.same (lQ _)⟩,.inl ⟨_,h5,.same (eK _)⟩,.inl ⟨_,h6,.same (lP _)⟩,.inl ⟨_,a,.same (QL _)⟩,trivial⟩
theorem J7:∀{m:Nat}{up u:List Nat}{k r:Nat},jk m up k=some (u,r)->u.length=up.length
 |0,_,_,_,_,h=>by cases h
 |m+1,up,u,k,r,h=>by
  rw[jk]at h;split at h
  ·cases h
  ·split at h
   ·simp only[oI_,pI_]at h;rw[h.1]
   ·split at h
    ·cases h
    ·have:=J7 h;rwa [aV_]at this
theorem jz {k r:Nat}(h:ko up k=some (u,r)):u.length=up.length:=let ⟨_,h⟩:=A6 h;J7 h
theorem Nu:∀{m:Nat}{up u:List Nat}{k r:Nat},jk m up k=some (u,r)->r < up.length
 |0,_,_,_,_,h=>by cases h
 |m+1,up,u,k,r,h=>by
  rw[jk]at h;split at h
  ·cases h
  ·rename_i p a;split at h
   ·simp only[oI_,pI_]at h;rw[<-h.2];exact (ar_.1 a).1
   ·split at h
    ·cases h
    ·have:=Nu h;rwa [aV_]at this
theorem Nv {k r:Nat}(h:ko up k=some (u,r)):r < up.length:=let ⟨_,h⟩:=A6 h;Nu h
theorem rK {N:aS}:∀{m:Nat}{ps:List (Nat × Nat)}{s c:JS}{b:Bool},iS N m ps s=some (b,c)->c.up.length=s.up.length
 |0,_,_,_,_,h=>by cases h
 |m+1,ps,s,c,b,h=>by
  rw[iS]at h;split at h
  ·cases h
  ·split at h
   ·simp only[oI_,pI_]at h;rw[<-h.2]
   ·split at h
    ·cases h
    ·rename_i f a d;split at h
     ·cases h
     ·rename_i g i e;have j:=jz d;have k:=jz e;split at h
      ·have:=rK h;simp only at this;omega
      ·split at h
       ·split at h
        ·split at h
         ·split at h
          ·split at h
           ·have:=rK h;simp only[aV_]at this;omega
           ·cases h
          ·simp only[oI_,pI_]at h;rw[<-h.2];simp only;omega
         ·cases h
        ·cases h
       ·have:=rK h;simp only[aV_]at this;omega
section
variable {w0:World}{ρ:Hd}
theorem afp {N:aS}{m:Nat}{s B:JS}{b:Bool}(hN:zW N) (hl:s.up.length<=1099511627776) (h:iS N m ps s=some (b,B)) :
  aG Tryz.prog w0 136 [.pt 0 6 0 0,.gr 7 2 ps.length] (aq (gS ρ ⟨N,vs,s⟩ kn++[(7,Dl ρ ps)]) 8) (.v (.bool b)) (aq (gS ρ ⟨N,vs,B⟩ kn) 8):=by
 obtain⟨nl,d⟩:∃nl,nl=N.length:=⟨_,rfl⟩;obtain⟨ul,i⟩:∃ul,ul=s.up.length:=⟨_,rfl⟩;have H:B.up.length=ul:=by rw[rK h,i]
 obtain⟨W,X,Y⟩:=B;obtain⟨up,sh,ls⟩:=s;dsimp only at hl i H;obtain⟨pl,j⟩:∃pl,pl=ps.length:=⟨_,rfl⟩;simp only[gS,<-d,<-i,H,<-j,aR_,aK_];refine sc 8 8 ai5 ?_;refine gq fD ?_
 refine ad.aK (σ:=List (Nat × Nat) × Nat × JS × Nat) 8 9 [(8,7)] (λp=>[(0,.pt 0 6 0 0),(1,.gr 8 2 p.2.1),(4,.v (.bool false))]) [] (λp=>[(0,gO nl ul),(1,fS ρ N),(2,bZ ρ vs),(3,cI ρ p.2.2.1.up),(4,fT ρ p.2.2.1.sh),(5,bZ ρ p.2.2.1.ls),(6,fU ρ kn),(8,Dl ρ p.1)])
  (λp=>p.2.1=p.1.length/\p.2.2.1.up.length=ul/\iS N p.2.2.2 p.1 p.2.2.1=some (b,⟨W,X,Y⟩)) (λp=>p.2.2.2) (ps,pl,⟨up,sh,ls⟩,m) ⟨j,i.symm,h⟩ rfl (by exact⟨sq,rfl,QM,rfl,rfl,rfl⟩) ?_
 have arF:ul<=1099511627776:=by omega
 clear h j i;rintro⟨ps,pl,⟨up,sh,ls⟩,m⟩ ⟨j,i,h⟩;simp only at j i h;cases m with
 |zero=>cases h
 |succ m =>
  rw[iS]at h;split at h
  ·cases h
  rename_i PF;rcases CM ps with rfl|⟨p0,⟨x,y⟩,rfl⟩
  ·simp only[List.getLast?_nil,oI_,pI_,JS.mk.injEq]at h;obtain⟨rfl,rfl,rfl,rfl⟩:=h;obtain rfl:pl=0:=j;refine gq fD ?_;refine ig fD (ae.iz rfl) λe he=>?_;refine cn (λZ=>?_) λZ=>?_
   ·omega
   ·refine gq fD ?_;refine ad.ao ?_;refine gq fD ?_;refine fq ?_;exact⟨[],.aC .v,gC8,rfl⟩
  ·simp only[List.getLast?_concat,dw_]at h PF;split at h
   ·cases h
   rename_i u1 a h1;split at h
   ·cases h
   rename_i C c h2;have hlen:pl=p0.length+1:=by rw[j];simp
   have arG:p0.length < 1099511627776:=by rw[af_,bi_]at PF;omega
   have hq:(p0++[(x,y)])[p0.length]?=some (x,y):=by simp
   have w:=bW (ρ:=ρ) (f:=ue) hq;have sK:(p0++[(x,y)]).take p0.length=p0:=by simp
   obtain⟨r0,Qv⟩:∃r0,r0=p0++[(x,y)]:=⟨_,rfl⟩;rw[<-Qv]at w sK j ⊢;have j8:u1.length=ul:=by rw[jz h1,i]
   have D:C.length=ul:=by rw[jz h2,j8]
   have L:=Ai (w0:=w0) (ρ:=ρ) (s:=⟨N,vs,⟨up,sh,ls⟩⟩) (kn:=kn) (by simp only;omega) h1;have M:=Ai (w0:=w0) (ρ:=ρ) (s:=⟨N,vs,⟨u1,sh,ls⟩⟩) (kn:=kn) (by simp only;omega) h2;simp only at L M;rw[<-jq d i,<-jq d j8]at L;rw[<-jq d j8,<-jq d D]at M;refine gq fD ?_;refine ig fD (ae.iz rfl) λe he=>?_;refine cn (λZ=>?_) λZ=>?_;rotate_left
   ·exfalso;omega
   refine gq fD ?_;refine ig fD (ae.iz rfl) λe2 vR=>?_;obtain⟨xi,Dn⟩:∃xi:Int,xi=x:=⟨_,rfl⟩;obtain⟨yi,Dp⟩:∃yi:Int,yi=y:=⟨_,rfl⟩;obtain⟨ai,nB⟩:∃ai:Int,ai=a:=⟨_,rfl⟩;obtain⟨ci,yB⟩:∃ci:Int,ci=c:=⟨_,rfl⟩;rw[ue]at w;simp only at w;rw[<-Dn,<-Dp]at w;rw[<-Dn,<-nB]at L;rw[<-Dp,<-yB]at M;refine ag fD λe3 he3=>?_;obtain⟨g,E⟩:∃g,g=p0.length:=⟨_,rfl⟩;rw[<-E]at w sK hlen;have mQ:e3=((g:Nat):Int):=by omega
   have aV:g < pl:=by omega
   refine ad.cP rfl (λT=>ae.dg rfl rfl mQ aV) ?_;refine ad.cP rfl (λT=>ae.iu rfl rfl (by decide) (by decide)) ?_;refine ad.eW rfl (a_.fk rfl rfl w rfl) ?_;refine ad.eW rfl (a_.iA false L rfl (.inl (by decide)) (dJ (by decide)) (HE) I2 (dJ (by decide)) (s8 (by decide) .v) .v) ?_;refine gq fD ?_;refine ad.cP rfl (λT=>ae.dg rfl rfl mQ aV) ?_;refine ad.cP rfl (λT=>ae.iu rfl rfl (by decide) (by decide)) ?_;refine ad.eW rfl (a_.fk rfl rfl w rfl) ?_;refine ad.eW rfl (a_.iA false M rfl (.inl (by decide)) (dJ (by decide)) (HE) I2 (dJ (by decide)) (s8 (by decide) .v) .v) ?_;refine gq fD ?_;refine ad.anl (f:=ue) (xs0:=p0) rfl rfl rfl j rfl mQ aV sK ?_;refine gq fD ?_;refine cn (λbf=>?_) λbf=>?_
   ·rw[if_pos (by omega)]at h;refine gq fD ?_;refine ad.az (σ:=List (Nat × Nat) × Nat × JS × Nat) (p0,g,⟨C,sh,ls⟩,m) [(8,8)] ⟨E,D,h⟩ ?_ (by exact⟨sq,rfl,QM,rfl,rfl,rfl⟩);exact aX_ _
   rw[if_neg (by omega),<-nB,<-yB]at h;have A:=ab7 (w0:=w0) (ρ:=ρ) (s:=⟨N,vs,⟨C,sh,ls⟩⟩) (kn:=kn) (a:=a) (b:=c) (by have:=Nv h2;simp only;omega);simp only at A;rw[<-jq d D,<-jq d (by rw[aV_,D]),<-nB,<-yB]at A;obtain⟨U,hU⟩:∃U,U=C.set c a:=⟨_,rfl⟩;obtain⟨F,uV⟩:∃F,F=lZ sh a c:=⟨_,rfl⟩;obtain⟨G,iF⟩:∃G,G=lq ls a c:=⟨_,rfl⟩;have o:U.length=ul:=by rw[hU,aV_,D]
   rw[<-hU,<-uV,<-iF]at A h;clear hU uV iF;refine gq fD ?_;refine ad.look (ρ:=ρ) (f:=iv) (kv:=sh) rfl rfl rfl rfl (λsi O=>?_) (λO=>?_)
   ·refine gq fD ?_;refine ad.look (ρ:=ρ) (f:=iv) (kv:=sh) rfl rfl rfl rfl (λP I=>?_) (λI=>?_)
    ·rw[O,I]at h;simp only at h;split at h;rotate_left
     ·cases h
     rename_i t l t' Q J K;split at h;rotate_left
     ·cases h
     rename_i h00;obtain⟨R,MA⟩:∃R:Nat,R=si.toNat:=⟨_,rfl⟩;obtain⟨J8,C9⟩:∃n:Nat,n=P.toNat:=⟨_,rfl⟩;rw[<-MA]at J;rw[<-C9]at K;have q1:si=(R:Int):=by omega
     have q2:P=(J8:Int):=by omega
     have g1:=hN _ _ _ J;have g2:=hN _ _ _ K;have c4:=ab6 (w0:=w0) (ρ:=ρ) (s:=⟨N,vs,⟨C,sh,ls⟩⟩) (kn:=kn) J K g1.2.2 g2.2.2 (by omega) (by omega);rw[<-jq d D,<-q1,<-q2]at c4;obtain⟨al,aT⟩:∃al,al=qu t t':=⟨_,rfl⟩;rw[<-aT]at c4 h;clear aT;refine gq fD ?_;refine ad.op rfl (ae.iA c4 rfl (aq_ rfl) (dJ (by decide)) (oq) (dJ (by decide)) (Dm (by decide) .v .v) .v) ?_;cases al with
     |false =>
      rw[if_neg (by decide)]at h;simp only[oI_,pI_,JS.mk.injEq]at h;obtain⟨rfl,rfl,rfl,rfl⟩:=h;refine gq fD ?_;refine ad.bh ?_;refine gq fD ?_;refine fq ?_;exact⟨[],.aC .v,gC8,rfl⟩
     |true =>
      rw[if_pos rfl]at h;split at h;rotate_left
      ·cases h
      rename_i hll;have hpu:Pure (aR ρ c8 false l):=dT λx _ a ha=>by
       obtain rfl:=ae_.1 ha;exact .v
      have i1:R < nl:=by rw[d];exact (ar_.1 J).1
      have i2:J8 < nl:=by rw[d];exact (ar_.1 K).1
      have r1:=bW (ρ:=ρ) (f:=vQ ρ) J;have r2:=bW (ρ:=ρ) (f:=vQ ρ) K;rw[vQ]at r1 r2;simp only at r1 r2;refine gq fD ?_;refine ad.op rfl (ae.dg rfl rfl q1 i1) ?_;refine ad.op rfl (ae.quiet rfl) ?_;refine og fD (ae.fk rfl rfl r1 rfl) ?_;refine ad.int rfl (ae.len rfl) λq GJ=>?_;rw[au]at GJ;refine gq fD ?_
      refine ad.aK (σ:=Int × List (Nat × Nat) × Nat) 9 10 [(9,8)] (λp=>[(0,.pt 0 6 0 0),(1,.gr 9 2 p.2.2),(4,.v (.bool false)),(6,iv ai),(7,iv ci),(10,iv P),(74,aR ρ c8 false l),(75,iv q),(76,iv p.1)]) [] (λp=>[(0,gO nl ul),(1,fS ρ N),(2,bZ ρ vs),(3,cI ρ C),(4,fT ρ sh),(5,bZ ρ ls),(6,fU ρ kn),(9,Dl ρ p.2.1)])
       (λp=>∃k:Nat,p.1=k/\k<=l.length/\p.2.1=p0++(l.zip Q).take k/\p.2.2=p.2.1.length) (λp=>l.length - p.1.toNat) (0,p0,g) ⟨0,rfl,by simp,by simp,E⟩ rfl (by exact⟨sq,rfl,afo,rfl,rfl,rfl⟩) ?_
      rintro⟨ki,pk,kl⟩ ⟨k,nF,hk,S,V⟩;simp only at nF hk S V;have afr:kl<=g+6:=by
       rw[V,S,af_,aZ_,cm_];omega
      refine gq fD ?_;refine cn (λdQ=>?_) λdQ=>?_
      ·have kD:k < l.length:=by omega
       obtain⟨u,hu⟩:∃u,l[k]?=some u:=⟨_,ai_ kD⟩;obtain⟨v,hv⟩:∃v,Q[k]?=some v:=⟨_,ai_ (by omega)⟩;refine gq fD ?_;refine og fD (ae.ind rfl rfl (aB (l:=l) nF hu) (aA λ_=>rfl)) ?_;refine ad.op rfl (ae.dg rfl rfl q2 i2) ?_;refine ad.op rfl (ae.quiet rfl) ?_;refine og fD (ae.fk rfl rfl r2 rfl) ?_;refine og fD (ae.ind rfl rfl (aB (l:=Q) nF hv) (aA λ_=>rfl)) ?_;refine ad.app (x:=(u,v)) (f:=ue) rfl rfl rfl V (λ_=>rfl) rfl rfl rfl rfl (by omega) λB db jl oR=>?_;refine gq fD ?_;refine ag fD λk2 fe=>?_;refine ad.az (σ:=Int × List (Nat × Nat) × Nat) (k2,B,db) [(9,10)] ⟨k+1,by simp only;omega,by omega,?_,oR⟩ ?_ (by exact⟨sq,rfl,afo,rfl,rfl,rfl⟩)
       ·simp only;rw[jl,S,bc_,bF_,ch_ (z:=(u,v)) |>.2 ⟨hu,hv⟩]
        rfl
       ·simp only;omega
      ·have kD:k=l.length:=by omega
       have anm:pk=p0++l.zip Q:=by
        rw[S,aQ_ (by rw[cm_];omega)]
       rw[<-anm]at h;refine gq fD ?_;refine ad.ao ?_;refine gq fD ?_;refine og fD (ae.iA A rfl (aq_ rfl) (dJ (by decide)) (oq) (dJ (by decide)) (Dm (by decide) .v .v) (.aL λ_ h=>by cases h)) ?_;refine ad.az (σ:=List (Nat × Nat) × Nat × JS × Nat) (pk,kl,⟨U,F,G⟩,m) [(8,9)] ⟨V,o,h⟩ ?_ (by exact⟨sq,rfl,QM,rfl,rfl,rfl⟩);exact aX_ _
    ·rw[O,I]at h;simp only at h;refine gq fD ?_;refine og fD (ae.iA A rfl (aq_ rfl) (dJ (by decide)) (oq) (dJ (by decide)) (Dm (by decide) .v .v) (.aL λ_ h=>by cases h)) ?_;refine ad.az (σ:=List (Nat × Nat) × Nat × JS × Nat) (p0,g,⟨U,F,G⟩,m) [(8,8)] ⟨E,o,h⟩ ?_ (by exact⟨sq,rfl,QM,rfl,rfl,rfl⟩);exact aX_ _
   ·rw[O]at h;simp only at h;refine gq fD ?_;refine ad.look (ρ:=ρ) (f:=iv) (kv:=sh) rfl rfl rfl rfl (λP I=>?_) (λI=>?_)
    ·refine gq fD ?_;refine og fD (ae.iA A rfl (aq_ rfl) (dJ (by decide)) (oq) (dJ (by decide)) (Dm (by decide) .v .v) (.aL λ_ h=>by cases h)) ?_;refine ad.az (σ:=List (Nat × Nat) × Nat × JS × Nat) (p0,g,⟨U,F,G⟩,m) [(8,8)] ⟨E,o,h⟩ ?_ (by exact⟨sq,rfl,QM,rfl,rfl,rfl⟩);exact aX_ _
    ·refine gq fD ?_;refine og fD (ae.iA A rfl (aq_ rfl) (dJ (by decide)) (oq) (dJ (by decide)) (Dm (by decide) .v .v) (.aL λ_ h=>by cases h)) ?_;refine ad.az (σ:=List (Nat × Nat) × Nat × JS × Nat) (p0,g,⟨U,F,G⟩,m) [(8,8)] ⟨E,o,h⟩ ?_ (by exact⟨sq,rfl,QM,rfl,rfl,rfl⟩);exact aX_ _
end
end
end Go.Proofs.YtbpabjmnhggajaaGreat
