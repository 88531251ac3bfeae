import Derived.Test.YtbdcmpknicjopaaGreatTp27
namespace Go.Proofs.YtbdcmpknicjopaaGreat
set_option linter.all false
set_option maxRecDepth 100000
open Go.RowKit Proofs.Tryz
variable{B i j m n nl q ul:Nat}{LU:Array Oper}{O:Hd}{P:Program}{S S' T:ah}{U aE:AA}{Y:World}{a:QO}{cl up:List Nat}{env:List Bd}{ex:Bool}{f:FuncId}{fr:Int}{kn:KN}{l:List Tm}{ls sh vs:List (Int×Int)}{o:Oper}{so:List (Nat×Ob)}{z:List AV}
variable{rows:List (List AV)}{r:List Tm}{N:aS}
section
variable{r:AV}
theorem zv9(w:World)(t t2 ty e:TypeId)(i:TypeInfo)(z:Value){kk k:IntKind}(g:P.underlying t=some (.slice e))(l:P.underlying t2=some (.int kk))(hi:P.info? e=some i)(m:i.zero=some z)(B:Option Addr)(n:Nat)(hs:0<i.size)(h0:0<n)(o:(n:Int)<=9223372036854775807)(p:n*i.bytes<=281474976710656):(Builtin.append_ #[t,t2] ty #[.slice B 0 0,.int k n]).run P w =.ok (.slice (some ⟨w.heap.size,0,none⟩) n (grownCap w n 0 e)) (w.drew.alloc (.cells (Builtin.zeroCells z.cells n++Builtin.zeroCells z.cells (grownCap w n 0 e-n)) e)):=by
 have q:n≠0:=Z;have r:i.size≠0:=Z;have a:¬9223372036854775807<(n:Int):=Z;have c:¬281474976710656<Builtin.nextslicecap n 0*i.bytes:=by rw[nextslicecap_zero h0];omega
 have s:IntKind.i64.wrap (n:Int)=n:=by rw[IntKind.wrap_i64];omega
 have d:¬(n:Int)<0:=Z;have f:¬281474976710656<(n:Int)*i.bytes:=X;have u:∀w:World,(Builtin.firstCells i.size 0 (.slice B 0 0)).run P w=.ok #[] w:=λw=>by cases B with|none=>simp[Builtin.firstCells]|some b=>simpa using run_firstCells_some (P:=P) (w:=w) i.size 0 b 0 0 [] aB λj v h=>X
 simp[Builtin.append_,run_underlying g,run_underlying l,sizeOf,typeInfo,zeroValue,hi,m,asInt,asIntOf,s,d,f,q,r,a,c,Question.forced,u,newRow,grownCap];intro h;rcases Nat.mul_eq_zero.1 h with h|h;omega;omega
theorem Q_{LQ:Nat}{b:QO}{o:Op}(h:res P.toTables o=some (.L_ z LQ a b)):∃c t t2 u v e kk f sz,o=.call c/\c.callee=.builtin .append/\c.argTypes=#[t,t2]/\c.args=#[u,v]/\a=qo u/\b=qo v/\P.underlying t=some (.slice e)/\P.underlying t2=some (.int kk)/\eu P e=some f /\eJ P e=some sz/\kQ P e=some LQ/\f.cells.size=sz/\0<LQ/\z=f.cells.toList.map b9:=by have d:∀{g:Type}{x y:g}{l:Array g},l.toList=[x,y]->l=#[x,y]:=λ{g x y l}h=>X;cases o<;>simp only[res,cM,gE,qn,kV,n4]at h<;>(repeat' split at h)<;>(try cases h);rename_i i;simp only[au_]at i;exact⟨_,_,_,_,_,_,_,_,_,rfl,X,d (by assumption),d X,rfl,rfl,xc (by assumption),by assumption,X,X,X,aS_ i.1,nb i.2,rfl⟩
theorem D.ao9{LQ:Nat}{b:QO}{k:IntKind}{m:Int}(h1:a.ev U.tm=.sl true [])(h2:b.ev U.tm=.v (.int k m))(h0:0<m)(h4:m*LQ<=35184372088832)(T:0<z.length):D P Y false (.L_ z LQ a b) U S (.ob S.nx z.length 0 m.toNat none) (S.new (.arr z.length (List.replicate m.toNat z) 0 false)):=D.run λn o r=>by
 obtain⟨c,t,t2,u,v,e,kk,f,l,V,W,nk,cF,rfl,rfl,ht,iU,hzv,hs,AM,s,lr,rfl⟩:=Q_ r;have E:(f.cells.toList.map b9).length=l:=X;rw[E]at T⊢;rw[aT]at h1 h2;intro A g q w F G;have K:=G.ev u;have L:=G.ev v;rw[h1]at K;rw[h2]at L;let⟨B,cc,e1,_,mF⟩:=vc K;have zD:cc=0:=X;subst zD;have e2:=cA L;let⟨i,hi,bT⟩:=oo hs;have uJ:i.zero=some f:=by grind[eu]
 have AN:i.bytes=LQ:=by grind[kQ]
 obtain⟨d,rfl⟩:∃d:Nat,m=d:=⟨m.toNat,Z⟩;have qO:0<d:=Z;have x:d*LQ<=35184372088832:=X;have hmul:d<=35184372088832:=aA_ (cu_ _ lr) x;have dB:=zv9 (P:=P) w t t2 o.type e i f (k:=k) ht iU hi uJ B d Z qO Z X;have FT:=grownCap_ge w d 0 e;let⟨T6,MX⟩:=F.drew;have va:∀q,¬g.fz w.heap.size q:=λq hf=>absurd (F.dL _ _ hf) (bU_ _);let⟨hE,dF⟩:=MX.new (.cells (Builtin.zeroCells f.cells d++Builtin.zeroCells f.cells (grownCap w d 0 e-d)) e) (.arr l (List.replicate d (f.cells.toList.map b9)) 0 false) (grownCap w d 0 e) (λJ=>aB) (λhL=>by
  refine⟨_,e,eg,?_,X,λh=>X,λp row r=>?_,aF_ _,λq=>⟨λh=>absurd h (va q),λh=>X⟩⟩;simp only[cP_,size_zeroCells,s];rw[<-aL_];congr 1;omega;obtain⟨M,rfl⟩:=aB_.1 r;simp only[bA_]at M;simp only[cQ_];refine⟨E,λj b' N=>?_⟩;simp only[aY_,bb_]at N;obtain⟨y,hy,rfl⟩:=N;have Q:j<l:=X;refine⟨y,?_,nQ y⟩;have au:p*l+j<d*l:=nj M Q;have R:j<f.cells.size:=Z;have e3:(p*l+j)%f.cells.size=j:=by rw[s,bX_,cd_];exact ce_ Q
  rw[bS_ (by rw[size_zeroCells,s];exact au)];unfold Builtin.zeroCells;rw[bW_,cc_,if_pos X];simp only[aK_,e3];rw[getElem!_pos f.cells j R,<-hy,bh_,aM_ R]);have C:(execOp q.eval o).run P w=.ok (.value (.slice (some ⟨w.heap.size,0,none⟩) d (grownCap w d 0 e))) (w.drew.alloc (.cells (Builtin.zeroCells f.cells d++Builtin.zeroCells f.cells (grownCap w d 0 e-d)) e)):=by
  have C:(execOp q.eval o).run P w=((Builtin.append_ #[t,t2] o.type #[q.eval u,q.eval v]).run P w).andThen λv w'=>.ok (.value v) w':=by simp[execOp,V,resolve,W,nk,cF,invoke,builtin]
  rw[C,e1,e2];simp only[bi_];rw[dB];rfl
 refine⟨_,_,_,.inl C,?_,dF,T6.trans hE⟩;have:=aO.ob (g:=g.new S.nx w.drew.heap.size (grownCap w d 0 e)) (w:=w.drew.alloc (.cells (Builtin.zeroCells f.cells d++Builtin.zeroCells f.cells (grownCap w d 0 e-d)) e)) (k:=S.nx) (sz:=l) (off:=0) (len:=d) (c:=grownCap w d 0 e) (cx:=none) (.inr rfl) (λm h=>X) (by rw[aG_];exact bY_ (aG _ _ _).symm) (λ_=>by rw[aG_];exact(aG _ _ _).symm) FT;rw[show(g.new S.nx w.drew.heap.size (grownCap w d 0 e)).ob S.nx=w.heap.size from aG _ _ _,bd_]at this;exact this
theorem agS{o:Op}(h:res P.toTables o=some (.cap a)):∃c t u e,o=.call c/\c.callee=.builtin .cap/\c.argTypes=#[t]/\c.args=#[u]/\a=qo u/\P.underlying t=some (.slice e):=by cases o<;>simp only[res,cM]at h<;>(repeat' split at h)<;>(try cases h);exact⟨_,_,_,_,rfl,X,toList_one (by assumption),toList_one X,rfl,by assumption⟩
def akp:AV->Option Nat|.sl true rows=>some rows.length|.ob _ _ _ _ (some c)=>some c|_=>none
theorem D.cap{x:QO}(a:akp (x.ev U.tm)=some m):D P Y false (.cap x) U S (.v (.int .i64 m)) S:=D.run λn o b=>by
 obtain⟨c,t,u,e,d,f,h,i,rfl,j⟩:=agS b;rw[aT]at a;refine a_.quiet λA g q w r k=>?_;have s:=k.ev u;have key:∃B l,q.eval u=.slice B l m:=by unfold akp at a;split at a;grind[vc];grind[j_];grind
 let⟨B,l,p⟩:=key;refine⟨_,?_,.v⟩;simp[execOp,d,resolve,f,h,i,invoke,builtin,p,Builtin.cap_,run_underlying j,goInt]
end
abbrev IE:=Nat×List Nat
def akq:List Nat->Nat->Bool|[],_=>false|a::l,k=>match Nat.beq a k with|true=>true|false=>akq l k
def inK(l:IE)(k:Nat):Bool:=match Nat.blt k l.1 with|true=>true|false=>akq l.2 k
section
variable{r:AV}{zzD:Nat->Dt×Option IE}
def GSX(P:Program)(Y:World)(n:Nat)(LU:Array Oper)(B:Nat)(i:Nat)(d:Dt×Option IE)(U:AA)(S:ah)(α1:AA)(S1:ah):Prop:=match d.2 with|none=>xq P Y n LU B i d.1 U S α1 S1|some l=>∃o,LU[i]?=some o/\(match o.dst with|some d=>Nat.blt d n|none=>true)=true/\Js LU i=false/\B<=S.nx/\S.nx<=S1.nx/\(∀k,inK l k=true->S1.get k=S.get k) /\(o.guard=none\/∃j a,o.guard=some (j,a)/\wU LU U j=some (some a))/\∃r,α1=U.put o.dst r/\jO P Y n o (U.only (dS o)) S r S1
def rdr(x:List Nat×List Nat×Bool)(l:IE):Bool:=match x with|(F,[],false)=>F.all (inK l ·)|_=>false
def EI(d:Dt×Option IE):List Nat×List Nat×Bool:=match d.2 with|none=>d.1.ns|some l=>(l.1::l.2,[],true)
def isX(x:List Nat×List Nat×Bool):Option IE:=match x with|(a::u,[],true)=>some (a,u)|_=>none
inductive Jt(P:Program)(Y:World)(n:Nat)(LU:Array Oper)(B:Nat)(zzD:Nat->Dt×Option IE):List Nat->AA->ah->AA->ah->Prop where|nil (U:AA) (S:ah):Jt P Y n LU B zzD [] U S U S|cons {i:Nat}{F5:List Nat}{U α1 aE:AA}{S S1 S':ah}(h:GSX P Y n LU B i (zzD i) U S α1 S1) (t:Jt P Y n LU B zzD F5 α1 S1 aE S'):Jt P Y n LU B zzD (i::F5) U S aE S'
end
section
attribute [local irreducible] ao aF D H
def ao_:=aC func230 call230
def Ra:List Nat:=[0]
theorem Wg:aF prog Y 230 [] (aw [] 0) (.pt 0 6 0 0) (aw (gS O ⟨[],[],⟨[],[],[]⟩⟩ []) 7):=by refine sc 0 7 ao_ ?_;refine I Ra ?_;refine H.Ka O iv rfl λe a=>?_;refine I Ra ?_;refine H.kN O iv rfl λf b=>?_;refine I Ra ?_;refine H.Ka O iv rfl λk3 c=>?_;refine I Ra ?_;refine H.kN O Iz rfl λk4 d=>?_;refine I Ra ?_;refine fq ?_;subst a b c d;exact⟨[(0,4),(1,5),(2,0),(3,6),(4,1),(5,2),(6,3)],.o9 rfl rfl,⟨.inl ⟨_,rfl,.arr (by exact⟨⟨.lH,.vA rfl rfl,.lH,.vA rfl rfl,.vA rfl rfl,.vA rfl rfl,trivial⟩,trivial⟩)⟩,.inr rfl,.inl ⟨_,rfl,.same (eV _)⟩,.inr rfl,.inl ⟨_,rfl,.same (m9 _)⟩,.inl ⟨_,rfl,.same (eV _)⟩,.inl ⟨_,rfl,.same (m_ _)⟩,trivial⟩,rfl⟩
structure GI(s:PS):Prop where
 V:sJ s
 F:Ut s
 A:sB s.N
 G:fR s.N
theorem GI.add{s:PS}{t:Tm}(h:GI s)(a:eU t)(g:kD t):GI (cu s t).1/\(cu s t).1.N.length<=s.N.length+cO t:=by let⟨i,k,j,b⟩:=ue s t h.V a;let⟨c,d⟩:=yT s.N t h.A g;let⟨e,_,_⟩:=rQ s.N t h.G a;rw[<-i]at c d e;exact⟨⟨j,λC f=>by rw[b.Gf C f];exact h.F C (aA_ b.le f),c,e.g⟩,d⟩
theorem KH{a b L:Nat}(c:a<L)(h:∀C:Nat,L<=C->aH ls (C:Int)=none):∀C:Nat,L<=C->aH (oc ls a b) (C:Int)=none:=by
 intro C d;have key:∀v,aH (gU ls (a:Int) v) (C:Int)=none:=λv=>by grind[c9]
 unfold oc;split;grind;grind
theorem A7{N:aS}:∀{m:Nat}{ps:List (Nat×Nat)}{s c:JS}{b:Bool},jK N m ps s=some (b,c)->∀{L:Nat},s.up.length=L->(∀C:Nat,L<=C->aH s.ls (C:Int)=none)->∀C:Nat,L<=C->aH c.ls (C:Int)=none
 |0,_,_,_,_,h,_,_,_=>by cases h|m+1,ps,s,c,b,h,L,i,d=>by
  rw[jK]at h;split at h;grind;split at h;grind;split at h;grind;rename_i j a e;split at h;grind;rename_i k l g;have n:=kE e;have o:=kE g;have f:a<L:=by have:=QP e;omega
  split at h;exact A7 h X d;split at h;split at h;split at h;split at h;split at h;exact A7 h X (KH f d);grind;grind;grind;grind;exact A7 h X (KH f d)
theorem GI.join{s:PS}{ps:List (Nat×Nat)}{j:JS}{b:Bool}(h:GI s)(a:jK s.N m ps s.js=some (b,j)):GI ⟨s.N,s.vs,j⟩ :=⟨⟨h.V.vs,by rw[ux a];exact h.V.up,h.V.nd⟩,λC c=>A7 a h.V.up h.F C c,h.A,h.G⟩
theorem GI.nil:GI ⟨[],[],⟨[],[],[]⟩⟩:=⟨⟨λv=>rfl,rfl,List.nodup_nil⟩,λC _=>rfl,λi a=>X,Fp⟩
def Oq:=aC func167 call167
def jo:List Nat:=[0,6,1,26,7,4,5,8,17,25,27,45]
def gN(O:Hd):List (Nat×Option Ob):=[(0,some (gO 0 0)),(1,some (gQ O [])),(2,some (cG O [])),(3,some (cT O [])),(4,some (gR O [])),(5,some (cG O [])),(6,some (gT O []))]
def gNB:ix (dP (aW []) 0 0) (gS O ⟨[],[],⟨[],[],[]⟩⟩ []) (gN O) :=⟨⟨0,_,rfl,rfl,.row ⟨.gr rfl,.mp rfl,.gr rfl,.mp rfl,.mp rfl,.mp rfl,trivial⟩⟩,⟨1,_,rfl,rfl,.pure (wB _)⟩,⟨2,_,rfl,rfl,.mb (fW lP _)⟩,⟨3,_,rfl,rfl,.pure (pV _)⟩,⟨4,_,rfl,rfl,.mp (fW lP _)⟩,⟨5,_,rfl,rfl,.mb (fW lP _)⟩,⟨6,_,rfl,rfl,.mp (fW zW _)⟩,trivial⟩
def gP(O:Hd)(i j q nl ul x y:Nat)(N:aS)(vs:List (Int×Int))(up:List Nat)(sh ls:List (Int×Int))(kn:KN):List (Nat×Ob):=[(0,xl i j nl ul),(i,gQ O N),(2,cG O vs),(j,cT O up),(4,gR O sh),(5,cG O ls),(6,gT O kn),(q,.arr 2 [wC (x,y)] 0 false)]
theorem aks{x y:Nat}(h0:T.get 0=some (xl i j nl ul):=by rfl)(h1:T.get i=some (gQ O N):=by rfl)(h2:T.get 2=some (cG O vs):=by rfl)(h3:T.get j=some (cT O up):=by rfl)(h4:T.get 4=some (gR O sh):=by rfl)(h5:T.get 5=some (cG O ls):=by rfl)(h6:T.get 6=some (gT O kn):=by rfl)(b:T.get q=some (.arr 2 [wC (x,y)] 0 false):=by rfl):iC T (gP O i j q nl ul x y N vs up sh ls kn):=by intro p a;unfold gP at a;simp only[al_,ax_,or_false]at a;rcases a with rfl|rfl|rfl|rfl|rfl|rfl|rfl|rfl<;>assumption
theorem gPN{x y:Nat}(h:iC T (gP O i j q nl ul x y N vs up sh ls kn)):kP (aW [(1,i),(3,j),(7,q)]) 8 T (gX O nl ul N vs up sh ls kn++[(7,F8 O [(x,y)])]):=by
 have c:T.get 0=some (xl i j nl ul):=h (0,xl i j nl ul) (by simp[gP]);have d:T.get i=some (gQ O N):=h (i,gQ O N) (by simp[gP]);have e:T.get 2=some (cG O vs):=h (2,cG O vs) (by simp[gP]);have f:T.get j=some (cT O up):=h (j,cT O up) (by simp[gP]);have g:T.get 4=some (gR O sh):=h (4,gR O sh) (by simp[gP]);have k:T.get 5=some (cG O ls):=h (5,cG O ls) (by simp[gP]);have l:T.get 6=some (gT O kn):=h (6,gT O kn) (by simp[gP]);have m:T.get q=some (.arr 2 [wC (x,y)] 0 false):=h (q,.arr 2 [wC (x,y)] 0 false) (by simp[gP]);have n:F8 O [(x,y)]=.arr 2 [wC (x,y)] 0 false:=by unfold F8;rw[O.eq];rfl
 rw[n];exact⟨⟨_,c,.row ⟨.gr rfl rfl,.mp rfl rfl,.gr rfl rfl,.mp rfl rfl,.mp rfl rfl,.mp rfl rfl,trivial⟩⟩,⟨_,d,.pure (wB _)⟩,⟨_,e,.mb (fW lP _)⟩,⟨_,f,.pure (pV _)⟩,⟨_,g,.mp (fW lP _)⟩,⟨_,k,.mb (fW lP _)⟩,⟨_,l,.mp (fW zW _)⟩,⟨_,m,.pure λrow o a b=>by cases ar_.1 o;simp only[wC,al_,ax_,or_false]at b;rcases b with rfl|rfl<;>exact .v⟩,trivial⟩
def gWj(O:Hd)(a i j q nl ul:Nat)(N:aS)(vs:List (Int×Int))(up:List Nat)(sh ls:List (Int×Int))(kn:KN):List (Nat×Option Ob):=[(0,some (xl i j nl ul)),(i,some (gQ O N)),(2,some (cG O vs)),(j,some (cT O up)),(4,some (gR O sh)),(5,some (cG O ls)),(6,some (gT O kn)),(q,none),(a,none),(a+1,none),(a+2,none),(a+3,none),(a+4,none),(a+5,none),(a+6,none),(a+7,none)]
def aty{a:Nat}:ix (dP (aW [(1,i),(3,j),(7,q)]) 8 a) (gX O nl ul N vs up sh ls kn) (gWj O a i j q nl ul N vs up sh ls kn) :=⟨⟨0,_,rfl,rfl,.row ⟨.gr rfl,.mp rfl,.gr rfl,.mp rfl,.mp rfl,.mp rfl,trivial⟩⟩,⟨1,_,rfl,rfl,.pure (wB _)⟩,⟨2,_,rfl,rfl,.mb (fW lP _)⟩,⟨3,_,rfl,rfl,.pure (pV _)⟩,⟨4,_,rfl,rfl,.mp (fW lP _)⟩,⟨5,_,rfl,rfl,.mb (fW lP _)⟩,⟨6,_,rfl,rfl,.mp (fW zW _)⟩,trivial⟩
theorem Gq{U:Type}{l:List U}{x:U}(h:l[m]?=some x):l.drop m=x::l.drop (m+1):=by let⟨a,b⟩:=aB_.1 h;rw[bM_ a,b]
theorem Wh{b:Bool}{q:PS}{cc:Int}(hl:l.length<=100000000000)(nY:ab Y 229 [tl O l] (.v (.bool true)))(CJ:ab Y 229 [tl O r] (.v (.bool true)))(vQ:∀x∈l,eU x/\kD x)(vR:∀x∈r,eU x/\kD x)(GL:l.length=r.length)(hB:zx (l.zip r)<=100000000000)(hA:uQ (l.zip r) ⟨[],[],⟨[],[],[]⟩⟩ b q)(hpo:Pure (.sl ex rows))(hb:b=false->(ex=true/\rows=[])/\cc=13)(atz:b=true->aF prog Y 233 [.pt 0 6 0 0] (aw (gS O q []) 7) (.aL [.sl ex rows,iv cc]) (aw [] 7)):aF prog Y 167 [tl O l,tl O r] (aw [] 0) (.aL [.sl ex rows,iv cc]) (aw [] 0):=by
 have u0:Pure (.aL [.sl ex rows,iv cc]):=.aL λa ha=>by simp only[al_,ax_,or_false]at ha;rcases ha with rfl|rfl;grind;exact .v
 refine sc 0 0 Oq ?_;refine I jo ?_;refine H.op rfl (pl nY) ?_;refine I jo ?_;refine H.op rfl (pl CJ) ?_;refine I jo ?_;refine cr λq1 sw=>?_;rw[az]at sw;refine I jo ?_;refine cr λq2 um=>?_;rw[az]at um;refine I jo ?_;refine bq (λbS=>?_) λbS=>?_<;>(try simp only[bW]at bS);grind;refine I jo ?_;refine H.op rfl (D.mc [] (gN O) Wg rfl trivial (.pt rfl) trivial gNB) ?_;refine I jo ?_;refine cr λq3 yf=>?_;rw[az]at yf;refine I jo ?_;refine cC (τ:=PS×Nat×Nat) 7 9 [(7,1),(8,3)] (λp=>[(0,tl O l),(1,tl O r),(4,.sl true []),(5,iv 0),(6,.pt 0 6 0 0),(25,iv q3),(26,iv p.1)]) [] (λp=>[(0,xl 7 8 p.2.2.1 p.2.2.2),(2,cG O p.2.1.vs),(4,gR O p.2.1.js.sh),(5,cG O p.2.1.js.ls),(6,gT O []),(7,gQ O p.2.1.N),(8,cT O p.2.1.js.up)]) l.length (λm p=>GI p.2.1/\p.2.1.N.length+zx ((l.zip r).drop m)<=100000000000/\uQ ((l.zip r).drop m) p.2.1 b q/\p.2.2.1=p.2.1.N.length/\p.2.2.2=p.2.1.js.up.length) (⟨[],[],⟨[],[],[]⟩⟩,0,0) ⟨.nil,X,X,rfl,rfl⟩ ?_;rintro mi m⟨⟨c,d,⟨e,f,g⟩⟩,n1,u1⟩hm DV⟨C,R,s,ft,lx⟩;simp only at hm DV C R s ft lx;refine I jo ?_;refine bq (λbY=>?_) λbY=>?_<;>(try simp only[bW]at bY);have dg:m<l.length:=Z;let⟨x,hx⟩:∃x,l[m]?=some x:=⟨_,aw_ dg⟩;let⟨y,hy⟩:∃y,r[m]?=some y:=⟨_,aw_ Z⟩;have hd:=Gq (cB_ (z:=(x,y)) |>.2 ⟨hx,hy⟩);rw[hd]at R s;rw[zx]at R;simp only at R;let⟨wx,ax⟩:=vQ x (as_ hx);let⟨wy,ay⟩:=vR y (as_ hy);let⟨t,z2⟩:=C.add wx ax;have S:=aeE (Y:=Y) (O:=O) (cO x) _ x [] (ad_ _) C.V C.F wx ax C.A X;let⟨⟨⟨u,E,⟨v,F,G⟩⟩,rx⟩,cL⟩:∃p,p=cu ⟨c,d,⟨e,f,g⟩⟩ x:=⟨_,rfl⟩;have J:(∃w j,jK (cu (cu ⟨c,d,⟨e,f,g⟩⟩ x).1 y).1.N w [((cu ⟨c,d,⟨e,f,g⟩⟩ x).2,(cu (cu ⟨c,d,⟨e,f,g⟩⟩ x).1 y).2)] (cu (cu ⟨c,d,⟨e,f,g⟩⟩ x).1 y).1.js=some (false,j)/\b=false) \/∃w j,jK (cu (cu ⟨c,d,⟨e,f,g⟩⟩ x).1 y).1.N w [((cu ⟨c,d,⟨e,f,g⟩⟩ x).2,(cu (cu ⟨c,d,⟨e,f,g⟩⟩ x).1 y).2)] (cu (cu ⟨c,d,⟨e,f,g⟩⟩ x).1 y).1.js=some (true,j)/\uQ ((l.zip r).drop (m+1)) ⟨(cu (cu ⟨c,d,⟨e,f,g⟩⟩ x).1 y).1.N,(cu (cu ⟨c,d,⟨e,f,g⟩⟩ x).1 y).1.vs,j⟩ b q:=by cases s with|no h=>exact .inl ⟨_,_,h,rfl⟩|go h k=>exact .inr ⟨_,_,h,k⟩
 rw[<-cL]at S t z2 J;simp only at t z2 J;let⟨A,z3⟩:=t.add wy ay;have V:=aeE (Y:=Y) (O:=O) (cO y) _ y [] (ad_ _) t.V t.F wy ay t.A X;let⟨⟨⟨i,n,⟨K,W,Gf⟩⟩,ry⟩,Cb⟩:∃p,p=cu ⟨u,E,⟨v,F,G⟩⟩ y:=⟨_,rfl⟩;rw[<-Cb]at V A z3 J;simp only at A z3 J;clear cL Cb s;let⟨n2,ez⟩:=aq u.length;let⟨u2,od⟩:=aq v.length;let⟨L,nz⟩:=aq i.length;let⟨B,A3⟩:=aq K.length;rw[<-kf ft lx.symm]at S;rw[<-kf ez od.symm]at V;have k1':aF prog Y 232 [.pt 0 6 0 0,tm O x] (aw (gX O n1 u1 c d e f g []) 7) (iv (rx:Nat)) (aw (Y5 O n2 u2 u E v F G []) 9):=by rw[ez,od];exact S
 have k2':aF prog Y 232 [.pt 0 6 0 0,tm O y] (aw (gX O n2 u2 u E v F G []) 7) (iv (ry:Nat)) (aw (Y5 O L B i n K W Gf []) 9):=by rw[nz,A3];exact V
 let⟨bb,w,⟨o,M,N⟩,hj,AN⟩:∃bb w j,jK i w [(rx,ry)] ⟨K,W,Gf⟩=some (bb,j)/\(bb=false/\b=false\/bb=true/\uQ ((l.zip r).drop (m+1)) ⟨i,n,j⟩ b q):=X;have g4:=A.join hj;have P:o.length=B:=by have:=ux hj;simp only at this;omega
 have k3:=ajV (Y:=Y) (O:=O) (vs:=n) (kn:=[]) (B7.of A.G A.A) (by have:=A.V.up;simp only at this z3 z2⊢;omega) hj;rw[<-kf nz A3.symm,<-kf nz P]at k3;clear S V J;refine I jo ?_;refine H.eK rfl (λT=>D.ind rfl rfl (cD (l:=l) hm hx) cE) ?_;refine I jo ?_;refine H.gD rfl (bm.mc [(1,7),(3,8)] (gZ O 7 8 n1 u1 c d e f g []) (gW O 9 7 8 n2 u2 u E v F G []) k1' rfl ⟨.pt rfl rfl,.pure (bH x),trivial⟩ (.pure .v) Gg (λT Q=>Y4 Q) gWB) ?_;refine I jo ?_;refine H.eK rfl (λT=>D.ind rfl rfl (cD (l:=r) hm hy) cE) ?_;refine I jo ?_;refine H.gD rfl (bm.mc [(1,16),(3,17)] (gZ O 16 17 n2 u2 u E v F G []) (gW O 25 16 17 L B i n K W Gf []) k2' rfl ⟨.pt rfl rfl,.pure (bH y),trivial⟩ (.pure .v) Gg (λT Q=>Y4 Q) gWB) ?_;refine H.eK rfl (λT=>D.quiet rfl) ?_;refine H.gD rfl (bm.aoG rfl) ?_;refine I jo ?_;refine H.gD rfl (bm.mc [(1,32),(3,33),(7,41)] (gP O 32 33 41 L B rx ry i n K W Gf []) (gWj O 42 32 33 41 L B i n o M N []) k3 rfl ⟨.pt rfl rfl,.gr rfl rfl,trivial⟩ (.pure .v) aks (λT Q=>gPN Q) aty) ?_;rcases AN with⟨rfl,hbf⟩|⟨rfl,hk⟩;obtain⟨⟨rfl,rfl⟩,rfl⟩:=hb hbf;refine I jo ?_;refine rG jo ?_;refine fq ?_;exact⟨[],.aJ (Pure.bu u0),trivial,rfl⟩;refine I jo ?_;refine cK λm2 iL=>?_;refine I jo ?_;exact bN (m2,⟨i,n,⟨o,M,N⟩⟩,L,B) [(7,32),(8,33)] (m+1) ⟨g4,X,hk,nz,P.symm⟩;have dg:m=l.length:=Z;rw[dg,aR_ X]at s;obtain⟨rfl,rfl⟩:b=true/\q=⟨c,d,⟨e,f,g⟩⟩:=by cases s;exact⟨rfl,rfl⟩
 have k:=atz rfl;rw[<-kf ft lx.symm]at k;refine I jo ?_;refine xG jo ?_;refine H.op rfl (D.mc [(1,7),(3,8)] [(0,none),(7,none),(2,none),(8,none),(4,none),(5,none),(6,none),(9,none),(10,none),(11,none),(12,none),(13,none),(14,none),(15,none)] k rfl ⟨.pt rfl rfl,trivial⟩ (.pure u0) (Y4 Gg) trivial) ?_;refine I jo ?_;refine fq ?_;exact⟨[],.aJ (Pure.bu u0),trivial,rfl⟩
end
theorem iH(c:Int):Pure (.aL [.sl true [],iv c]):=.aL λa b=>by simp only[al_,ax_,or_false]at b;rcases b with rfl|rfl;exact .sl λr d=>X;exact .v
theorem abY(a:ab Y 229 [tl O l] (.v (.bool false))):aF prog Y 167 [tl O l,tl O r] (aw [] 0) (.aL [.sl true [],iv 2]) (aw [] 0):=by refine sc 0 0 Oq ?_;refine I jo ?_;apply bk jo a;refine fq ?_;exact⟨[],.aJ (Pure.bu (iH 2)),trivial,rfl⟩
theorem abZ(a:ab Y 229 [tl O l] (.v (.bool true)))(b:ab Y 229 [tl O r] (.v (.bool false))):aF prog Y 167 [tl O l,tl O r] (aw [] 0) (.aL [.sl true [],iv 2]) (aw [] 0):=by refine sc 0 0 Oq ?_;refine I jo ?_;apply bk jo a;apply bk jo b;refine fq ?_;exact⟨[],.aJ (Pure.bu (iH 2)),trivial,rfl⟩
theorem ab0(a:ab Y 229 [tl O l] (.v (.bool true)))(b:ab Y 229 [tl O r] (.v (.bool true)))(d:l.length≠r.length):aF prog Y 167 [tl O l,tl O r] (aw [] 0) (.aL [.sl true [],iv 9]) (aw [] 0):=by refine sc 0 0 Oq ?_;refine I jo ?_;apply bk jo a;apply bk jo b;refine lg jo λq1 e=>?_;refine lg jo λf g=>?_;refine cn (λc=>?_) λc=>?_;rotate_left;grind;refine I jo ?_;refine fq ?_;exact⟨[],.aJ (Pure.bu (iH 9)),trivial,rfl⟩
section
attribute [local irreducible] ao aF D H
def apa:=aC func293 call293
def akv:List Nat:=[4,5,0,1,2,3]
def apb:=aC func240 call240
def ab1:List Nat:=[6,4,0,1,2,3]
theorem HH(x:Tm):Wk (.sl ex [kR O x]) (tl O [x]):=by grind[tl,bF,qK,Wk.sl]
def wD{cc:Int}(a:Pure (.aL [.sl ex rows,iv cc]))(h:aF prog Y 167 [tl O l,tl O r] (aw [] 0) (.aL [.sl ex rows,iv cc]) (aw [] 0)):ab Y 167 [tl O l,tl O r] (.aL [.sl ex rows,iv cc]) :=ao.zu (S':=aw [] 0) h (.refl _) a
theorem agU{a b:Tm}{cc:Int}(c:Pure (.aL [.sl ex rows,iv cc]))(h:ab Y 167 [tl O [a],tl O [b]] (.aL [.sl ex rows,iv cc])):ab Y 293 [tm O a,tm O b] (.aL [.sl ex rows,iv cc]):=by refine st apa akv c ?_;refine og akv (D.jF rfl h ⟨cZ _,cZ _,trivial⟩ ⟨HH a,HH b,trivial⟩) ?_;refine fq ?_;exact .refl _
theorem Tc{a b:Tm}{cc:Int}(h:ab Y 293 [tm O a,tm O b] (.aL [.sl ex rows,iv cc])):ab Y 240 [tm O a,tm O b] (.v (.bool (decide (cc=0\/cc=6)))):=by
 let⟨R,c⟩:=aq (decide (cc=0\/cc=6));rw[<-c];refine st apb ab1 .v ?_;apply bk ab1 h;repeat' first|refine cg ab1 (λd=>?_) λd=>?_|refine fq ?_
 all_goals refine aK ?_;rw[c];simp_all
theorem Cv.akw{Y:World}{n:Nat}{U:AA}{S:ah}{T:Type}(f:T->List AV){t k sz:Nat}(a:S.get k=some (.arr sz rows 0 ex))(b:U.tm t=.ob k sz 0 0 none):Cv Y n U S ⟨bJ U.tm t (.gr k sz 0),U.df⟩ (S.set k (some (.arr sz (O.h (List.map f) []) 0 false))):=by have:=Cv.akh (Y:=Y) (n:=n) a b (aF_ _);rw[O.eq,aV_];simpa using this
def apc:=aC func263 call263
def xV:List Nat:=[0,12,5,6,4,11,13,1]
def CK(O:Hd)(x:Tm×Tm):List AV:=[iv x.1.k,iv x.1.i,.v (.string x.1.n),tl O x.1.a,iv x.2.k,iv x.2.i,.v (.string x.2.n),tl O x.2.a]
def vS(O:Hd)(l:List (Tm×Tm)):AV:=aY O (CK O) false l
theorem z8(x:Tm×Tm):∀a∈CK O x,Pure a:=by simp[CK,cZ,Pure.v,iv]
def oC(l:List (Tm×Tm)):Pure (vS O l):=en λx _ a b=>z8 x a b
theorem Rf(a b:List Tm)(N:a.length<=100000000000)(P:a.length=b.length):ab Y 263 [tl O a,tl O b] (vS O (a.zip b)):=by let⟨R,g⟩:=aq (a.zip b);rw[<-g];refine st apc xV (oC _) ?_;refine cr λq j=>?_;rw[az]at j;refine I xV ?_;refine H.op rfl (D.ajr rfl rfl Z Z Z Z) ?_;refine H.B6 (Cv.akw (O:=O) (CK O) (t:=9) (k:=0) rfl rfl) ?_;refine I xV ?_;refine cr λm n=>?_;rw[az]at n;refine I xV ?_;refine cC (τ:=List (Tm×Tm)×Nat) 1 2 [(1,0)] (λp=>[(0,tl O a),(1,tl O b),(5,.gr 1 8 p.2.2),(11,.v (.int .i64 m)),(12,.v (.int .i64 p.1))]) [] (λp=>[(1,.arr 8 (O.h (List.map (CK O)) p.2.1) 0 false)]) a.length (λk p=>R=p.2.1++(a.drop k).zip (b.drop k)/\p.2.2=p.2.1.length/\p.2.1.length=k) ([],0) ⟨X,rfl,rfl⟩ ?_;rintro i k⟨S,len⟩d T⟨c,e,o⟩;simp only at d c e o;clear g;refine I xV ?_;refine bq (λh=>?_) λh=>?_<;>(try simp only[bW]at h);rotate_left;refine I xV ?_;refine xG xV ?_;refine fq ?_;rw[aR_ Z,dx_,aI_]at c;rw[c];exact aI.grow rfl e;let⟨x,r,s⟩:=aA (l:=a) (k:=k) Z;let⟨y,u,v⟩:=aA (l:=b) (k:=k) Z;rw[s,v,cY_]at c;let⟨w,z,A,B⟩:=x;let⟨C,E,F,G⟩:=y;refine I xV ?_;refine H.op rfl (D.ind rfl rfl (cD (l:=a) d r) cE) ?_;refine I xV ?_;refine H.op rfl (D.ind rfl rfl (cD (l:=b) d u) cE) ?_;refine I xV ?_;refine H.iW (f:=CK O) (⟨w,z,A,B⟩,⟨C,E,F,G⟩) rfl rfl rfl e (λ_=>rfl) rfl rfl rfl Z λJ K V L=>?_;refine I xV ?_;refine cK λM W=>?_;refine I xV ?_;exact bN (M,J,K) [(1,2)] (k+1) ⟨X,L,X⟩
def apd:=aC func309 call309
def akx:List Nat:=[3,0,2,1]
def ape:=aC func271 call271
def aky:List Nat:=[4,1,0,3]
def apf:=aC func146 call146
def z_:List Nat:=[12,7,6,2,11,13,10,0,1,9]
def apg:=aC func209 call209
def BL:List Nat:=[5,6,1,8,11,0,7,2,12,19,9,46,52,57]
def atA:=aC func79 call79
def g79:List Nat:=[5,6,2,0,1]
theorem agV(x:Bd)(v:Int):ab Y 309 [bd O x,.ip [iv v]] (.v (.bool (x.v==v))):=by
 let⟨i,k,j,n,a⟩:=x;refine st apd akx .v ?_;repeat' first|refine cg akx (λb=>?_) λb=>?_|refine fq ?_
 all_goals refine aK ?_;simp_all
theorem UD(b:List Bd)(v:Int)(h:b.length<=1099511627776):ab Y 271 [a8 O b,iv v] (iv (wv b v)):=by
 have d:Pure (.fn (.func 309) [] [.ip [iv v]]):=.fn (λa e=>X) λa e=>by cases ar_.1 e;exact .ip λb c=>by cases ar_.1 c;exact .v
 have f:=Pj (Y:=Y) (O:=O) (λx=>x.v==v) b _ [] _ h d λx _=>⟨_,_,rfl,⟨uu x,.ip λb c=>by cases ar_.1 c;exact .v,trivial⟩,agV x v⟩;unfold wv;let⟨j,g⟩:=aq (dp (λx:Bd=>x.v==v) b 0);rw[<-g]at f⊢;clear g;refine st ape aky .v ?_;repeat' first|refine ig aky (D.tt rfl f ⟨bI _,d,trivial⟩ .v ⟨.refl _,aI.fns trivial ⟨aI.box (cs:=[iv v]) (cs':=[iv v]) rfl ⟨.refl _,trivial⟩,trivial⟩,trivial⟩) λ_ _=>?_|refine fq ?_
 all_goals refine dx ?_;omega
theorem IF{f:Tm->Tm}(a:List Tm)(y:a.length<=100000000000)(o:∀x∈a,ab Y 209 [a8 O env,iv fr,tm O x] (tm O (f x))):ab Y 146 [a8 O env,iv fr,tl O a] (tl O (a.map f)):=by
 let⟨R,g⟩:=aq (a.map f);rw[<-g];refine st apf z_ (cZ _) ?_;refine lg z_ λm z=>?_;refine cC (τ:=List Tm×Nat) 0 1 [] (λp=>[(0,a8 O env),(1,.v (.int .i64 fr)),(7,.gr 0 4 p.2.2),(10,tl O a),(11,.v (.int .i64 m)),(12,.v (.int .i64 p.1))]) [] (λp=>[(0,.arr 4 (O.h (List.map (kR O)) p.2.1) 0 false)]) a.length (λk p=>R=p.2.1++(a.drop k).map f/\p.2.2=p.2.1.length/\p.2.1.length=k) ([],0) ⟨X,rfl,rfl⟩ ?_;rintro i k⟨B,len⟩h C⟨b,c,q⟩;simp only at h b c q;clear g;refine I z_ ?_;by_cases r:k<a.length
 ·let⟨x,j,s⟩:=aA r;have n:=o x (aZ j);rw[s,aH_]at b;let⟨d,t⟩:=aq (f x);rw[<-t]at n b;let⟨E,F,G,J⟩:=x;repeat' first|refine og z_ (D.ind rfl rfl (cD (l:=a) h j) cE) ?_|apply bk z_ n|refine H.app (x:=d) (f:=kR O) rfl rfl rfl c (λ_=>rfl) rfl rfl rfl rfl Z λu v K L=>?_;refine I z_ ?_|refine cg z_ (λe=>?_) λe=>?_|refine ag z_ λ_ _=>?_|refine xG z_ ?_|refine fq ?_
  all_goals first|omega|refine H.bK (_,u,v) [(0,2)] ?_ ?_ (by exact⟨sq,rfl,⟨.inl ⟨_,rfl,.same (ko λx _ a w=>tO x a w)⟩,trivial⟩,rfl,rfl,rfl⟩);grind;simp only;omega
 ·skip;repeat' first|refine cg z_ (λe=>?_) λe=>?_|refine xG z_ ?_|refine fq ?_
  all_goals first|omega|rw[b,aq_ Z,aV_,aI_,<-Q2];exact aI.grow rfl c
theorem ab2(E:env.length<=1099511627776)(h0:0<=fr)(h1:fr<=1099511627776)(n:Nat):∀x:Tm,cO x<=n->n<=100000000000->sT x->ab Y 209 [a8 O env,iv fr,tm O x] (tm O (kZ env fr x)):=by induction n with|zero=>intro x h;have:=fJ x;omega|succ n u =>
  intro x v F o;rw[fJ]at v;have G:=pW x.a;have d:=IF (Y:=Y) (O:=O) (f:=kZ env fr) (env:=env) (fr:=fr) x.a Z λy w=>u y (by have:=lj y w;omega) Z ((aeL o).mem y w);have p:=UD (Y:=Y) (O:=O) env x.i E;have e:=DO env x.i;have g:=HD env x.i;let⟨j,z⟩:=aq (wv env x.i);rw[<-z]at p e g;have J:=aeM o;have m:=Wb (Y:=Y) (O:=O) (fr+x.i);have r:=aka (Y:=Y) (O:=O) x.i;let⟨R,c⟩:=aq (kZ env fr x);rw[<-c];let⟨k,i,t,a⟩:=x;rw[kZ,pE]at c;simp only at d p e g m r c J;clear u v F o z G;let⟨A,K⟩:=aq (a.map (kZ env fr));rw[<-K]at d c;have B:=akb (Y:=Y) (O:=O) t A;let⟨s,L⟩:=aq (fr+i);rw[<-L]at m c;refine st apg BL (bH _) ?_;repeat' first|refine ig BL (pl p) λ_ _=>?_|apply bk BL d|apply bk BL B|apply bk BL r|refine H.int rfl (D.yA (a:=i) (b:=fr) rfl rfl rfl Z Z) λC Q=>?_;obtain rfl:C=s:=Z;refine I BL ?_;apply bk BL m|refine cg BL (λM=>?_) λM=>?_|refine ag BL λ_ _=>?_|refine fq ?_
  all_goals clear d r m B
  all_goals first
   |omega
   |(have h:R=⟨2,0,t,A⟩:=by rw[c,if_neg Z,if_neg Z,if_pos Z]
     rw[h];exact .refl _)
   |(have h0:mI env i=none:=g Z;have h:R=vr C:=by rw[c,if_pos Z,h0];rfl
     rw[h];exact .refl _)
   |(have h:R=Wc i:=by rw[c,if_neg Z,if_pos Z];rfl
     rw[h];exact .refl _)
   |(have h:R=⟨k,i,t,a⟩:=by rw[c,if_neg Z,if_neg Z,if_neg Z]
     rw[h];exact .refl _)|skip
  let⟨q,⟨S,T,V,W,xa⟩,e1,N,P⟩:=e Z;rw[if_pos Z,P]at c;simp only at c;clear e g;refine og BL (D.ind rfl rfl (fm (l:=env) (k:=q) Z N) (ec λ_=>rfl)) ?_;repeat' first|refine fq ?_
  all_goals rw[c];exact .refl _
def agW(a:env.length<=1099511627776)(h0:0<=fr)(h1:fr<=1099511627776)(x:Tm)(b:cO x<=100000000000)(c:sT x):ab Y 209 [a8 O env,iv fr,tm O x] (tm O (kZ env fr x)):=ab2 a h0 h1 _ x (ad_ _) b c
theorem ab3(c:env.length<=1099511627776)(h0:0<=fr)(h1:fr<=1099511627776)(g:Gl)(i:bE g.a<=100000000000)(d:oU g.a):ab Y 79 [a8 O env,iv fr,gl O g] (gl O (jZ env fr g)):=by
 have b:=IF (Y:=Y) (O:=O) (f:=kZ env fr) (env:=env) (fr:=fr) g.a (by grind[pW]) λy e=>agW c h0 h1 y (by have:=lj y e;omega) (d.mem y e);rw[jZ];let⟨o,n,a⟩:=g;simp only at b⊢;let⟨A,h⟩:=aq (a.map (kZ env fr));rw[<-h]at b⊢;clear h d i c;refine st atA g79 (jH _) ?_;repeat' first|apply bk g79 b|refine fq ?_
 exact .refl _
end
theorem UE{G:Nat->Option Ob}:∀{W:List (Nat×Option Ob)},(∀p∈W,G p.1=p.2)->eE G W=G|[],_=>rfl|p::W,h=>by rw[eE,UE λq a=>h q X];funext j;by_cases e:j=p.1;grind[aG];rw[aN _ _ e]
section
variable{args:List AV}{N:Nat}{r:AV}
theorem bm.Ot{fq:QO}{b:List QO}(x:aF P Y f args (aw so N) r (aw so N))(h:fk (fq.ev U.tm) (b.map (·.ev U.tm))=some (f,args))(y:N<=B)(hs:BH so N)(z:iC S so)(A:∀j,j<N->∃o,fH so j=some o)(C:∀a∈args,eC N a)(E:eC N r):bm P Y B (.call fq b) U S r ⟨so,[],false⟩:=by
 intro n o i;let⟨c,u,L,l,F,d⟩:=mq i;refine⟨λm=>by grind[sI,qf],z,λT G s M=>?_⟩;have v:∀q∈(.call c:Op).operands,(U.only (dS o)).ev q=U.ev q:=λq J=>gI λt Q=>gJ X;have K:fk (fq.ev (U.only (dS o)).tm) (b.map (·.ev (U.only (dS o)).tm))=some (f,args):=by rw[<-h,F,d,aT,aT,jG,jG,v u (show u∈c.operands by simp[Call.operands,l])];congr 1;exact aQ_ λq J=>v q (show q∈c.operands by simp[Call.operands,l];exact .inr X)
 have k:=(D.call (dr:=false) K (x.here (T:=T) (aA_ y G) hs (λj o g=>s (j,o) (fT g)) hs C E false) λe=>X) n o i;have e:eX T (wl so N) false=T:=by rw[gK,UE];rw[yK];rfl;intro p m;obtain⟨j,g,rfl⟩:=aD_.1 m;let⟨ob,w⟩:=A j (aU_.1 g);simp only;rw[w];exact s (j,ob) (fT w)
 rw[e]at k;rw[gK];exact k
end
section
attribute [local irreducible] ao aF D H
def aph:=aC func347 call347
def tQ:List Nat:=[5,0,4,12,1,34]
def api:=aC func348 call348
def BM:List Nat:=[6,0,5,4,13,1,51]
def rA(O:Hd)(x:Tm×List Nat):List AV:=[iv x.1.k,iv x.1.i,.v (.string x.1.n),aY O dz false x.2]
def iV(O:Hd)(N:aS):Ob:=.arr 4 (O.h (List.map (rA O)) N) 0 false
def A8(i j nl ul:Nat):Ob:=.arr 2 [[.gr i 4 nl,.gr j 1 ul]] 0 true
def rO(nl ul:Nat):Ob:=.arr 2 [[.gr 1 4 nl,.gr 2 1 ul]] 0 true
def rX(O:Hd)(nl ul:Nat)(N:aS)(cl:List Nat):List (Nat×Ob):=[(0,rO nl ul),(1,iV O N),(2,cT O cl)]
theorem vB(h:2<B):kp B (rO nl ul):=λrow c a b=>by cases ar_.1 c;simp only[al_,ax_,or_false]at b;rcases b with rfl|rfl;exact .gr Z;exact .gr Z
theorem Ju(x:Tm×List Nat):∀a∈rA O x,Pure a:=by intro a b;simp only[rA,al_,ax_,or_false]at b;rcases b with rfl|rfl|rfl|rfl;exact .v;exact .v;exact .v;exact en λx _ a b=>by cases ar_.1 b;exact .v
theorem D0(N:aS):∀row∈O.h (List.map (rA O)) N,∀a∈row,Pure a:=by rw[O.eq];intro row b a c;obtain⟨x,_,rfl⟩:=aD_.1 b;exact Ju x a c
theorem pf(N:aS):kp B (iV O N):=λrow b a c=>Pure.bu (D0 N row b a c)
theorem iw(h:2<B):BH (rX O nl ul N cl) B:=⟨λj o a=>by unfold rX at a;have:=fT a;simp only[al_,pI_,ax_,or_false]at this;rcases this with⟨rfl,rfl⟩|⟨rfl,rfl⟩|⟨rfl,rfl⟩;grind[vB,rO];grind[pf,iV];exact⟨Z,fX _,λJ=>by simp[cT]⟩⟩
theorem UG:∀p∈rX O nl ul N cl,fH (rX O nl ul N cl) p.1=some p.2:=by intro p a;unfold rX at a⊢;simp only[al_,ax_,or_false]at a;rcases a with rfl|rfl|rfl<;>rfl
theorem Aa(h0:T.get 0=some (rO nl ul):=by rfl)(h1:T.get 1=some (iV O N):=by rfl)(h2:T.get 2=some (cT O cl):=by rfl):iC T (rX O nl ul N cl):=by intro p a;unfold rX at a;simp only[al_,ax_,or_false]at a;rcases a with rfl|rfl|rfl<;>assumption
theorem CL(h0:T.get 0=some (rO nl ul):=by rfl)(h1:T.get 1=some (iV O N):=by rfl)(h2:T.get 2=some (cT O cl):=by rfl):∀j o,fH (rX O nl ul N cl) j=some o->T.get j=some o:=λj o a=>Aa (h0:=h0) (h1:=h1) (h2:=h2) (j,o) (fT a)
theorem rC{M N:Nat}{S:ah}{a:aS}(b:2<M:=by decide)(h0:S.get (eZ M (aW []) 0)=some (rO nl ul):=by rfl)(h1:S.get (eZ M (aW []) 1)=some (iV O a):=by rfl)(h2:S.get (eZ M (aW []) 2)=some (cT O cl):=by rfl):gH M [] N S (rX O nl ul a cl) :=⟨.inl ⟨_,h0,.same (vB b)⟩,.inl ⟨_,h1,.same (pf _)⟩,.inl ⟨_,h2,.same (fX _)⟩,trivial⟩
theorem te{a:AV}{N:Nat}(h:0<N)(d:Pure a):∀b∈[AV.pt 0 2 0 0,a],eC N b:=by intro b c;simp only[al_,ax_,or_false]at c;rcases c with rfl|rfl;exact .pt h;exact Pure.bu d
theorem akz{a c:AV}{N:Nat}(h:0<N)(e:Pure a)(f:Pure c):∀b∈[AV.pt 0 2 0 0,a,c],eC N b:=by intro b d;simp only[al_,ax_,or_false]at d;rcases d with rfl|rfl|rfl;exact .pt h;exact Pure.bu e;exact Pure.bu f
theorem KK:∀j,j<3->∃o,fH (rX O nl ul N cl) j=some o:=λj a=>by rcases show j=0\/j=1\/j=2 by omega with rfl|rfl|rfl<;>exact⟨_,rfl⟩
def vT:Option Nat->Int|none=>-1|some s=>s
theorem vC{t:Tm}{l:List Nat}(h:N[i]?=some (t,l)):tn N i=t/\ks N i=l:=by grind[tn,ks]
theorem mf{z:Nat}(h:cl[i]?=some z):cw cl i=z:=by grind[cw]
theorem yL{n:Nat}(h:i<n):(List.range n).drop i=i::(List.range n).drop (i+1):=by have a:(List.range n)[i]?=some i:=List.getElem?_range h;let⟨b,c⟩:=aB_.1 a;rw[bM_ b,c]
theorem CM(C:Nat)(B:nl=N.length)(E:ul=nl)(F:cl.length=ul)(G:nl<=1099511627776):aF prog Y 347 [.pt 0 2 0 0,iv C] (aw (rX O nl ul N cl) 3) (iv (vT (cY N cl C))) (aw (rX O nl ul N cl) 3):=by let⟨r,d⟩:=aq (vT (cY N cl C));rw[<-d];unfold cY at d;let⟨g,s⟩:∃g:Int,g=C:=⟨_,rfl⟩;rw[<-s];refine sc 3 3 aph ?_;unfold rX;refine I tQ ?_;refine bD 3 3 [] (λp=>[(0,.pt 0 2 0 0),(1,iv g),(5,iv p)]) [] (λp=>[(0,rO nl ul),(1,iV O N),(2,cT O cl)]) nl (λi=>r=vT (((List.range nl).drop i).find? λi=>decide (cw cl i=C)&&decide ((tn N i).k≠1))) X λii i j J a=>?_;clear d;refine I tQ ?_;refine ig tQ (D.ng rfl) λe K=>?_;refine cn (λu=>?_) λu=>?_;have b:i<nl:=Z;have v:i<ul:=Z;let⟨z,m⟩:∃z,cl[i]?=some z:=⟨_,aw_ Z⟩;let⟨⟨t,L⟩,n⟩:∃x,N[i]?=some x:=⟨_,aw_ Z⟩;have c:=dv (O:=O) (f:=rA O) n;rw[rA]at c;simp only at c;rw[yL b,cC_,mf m,(vC n).1]at a;let⟨M,P,Q,R⟩:=t;simp only at a c;let⟨o,w⟩:∃o:Int,o=z:=⟨_,rfl⟩;have q:=dv (O:=O) (f:=dz) m;rw[dz,<-w]at q;refine I tQ ?_;refine H.op rfl (D.eQ rfl rfl j v) ?_;refine og tQ (D.iM rfl rfl q rfl) ?_;refine cn (λy=>?_) λy=>?_;rw[decide_eq_true (show z=C by omega),az_]at a;refine I tQ ?_;refine H.op rfl (D.eQ rfl rfl j b) ?_;refine H.op rfl (D.quiet rfl) ?_;refine og tQ (D.iM rfl rfl c rfl) ?_;refine cn (λk=>?_) λk=>?_;rw[decide_eq_true k]at a;simp only[vT]at a;subst a;rw[<-j];refine I tQ ?_;refine rG tQ ?_;refine fq ?_;exact⟨[],.aJ .v,rC,rfl⟩;rw[decide_eq_false λh=>h k]at a;simp only at a;refine I tQ ?_;refine ag tQ λl A=>?_;exact cB l [] (i+1) a;rw[decide_eq_false (show¬z=C by omega),bs_]at a;simp only at a;refine I tQ ?_;refine ag tQ λl A=>?_;exact cB l [] (i+1) a;have b:i=nl:=Z;rw[b,aR_ X,List.find?_nil,vT]at a;subst a;refine I tQ ?_;refine xG tQ ?_;refine fq ?_;exact⟨[],.aJ .v,rC,rfl⟩
theorem UH(C:Nat)(o:nl=N.length)(A:ul=nl)(B:cl.length=ul)(j:nl<=1099511627776):aF prog Y 348 [.pt 0 2 0 0,iv C] (aw (rX O nl ul N cl) 3) (iv (fw N cl C)) (aw (rX O nl ul N cl) 3):=by
 let⟨r,b⟩:=aq (fw N cl C);rw[<-b];unfold fw at b;rw[<-o]at b;let⟨g,q⟩:∃g:Int,g=C:=⟨_,rfl⟩;rw[<-q];refine sc 3 3 api ?_;unfold rX;refine I BM ?_;refine cC (τ:=Int) 3 3 [] (λp=>[(0,.pt 0 2 0 0),(1,iv g),(5,iv p.2),(6,iv p.1)]) [] (λp=>[(0,rO nl ul),(1,iV O N),(2,cT O cl)]) nl (λi p=>r=CG N cl C ((List.range nl).drop i) p.2) (-1) X ?_;rintro ii i v h F a;simp only at h a;clear b;refine I BM ?_;refine ig BM (D.ng rfl) λe G=>?_;refine cn (λs=>?_) λs=>?_
 ·have c:i<nl:=Z;have u:i<ul:=Z;let⟨z,k⟩:∃z,cl[i]?=some z:=⟨_,aw_ Z⟩;let⟨⟨t,J⟩,l⟩:∃x,N[i]?=some x:=⟨_,aw_ Z⟩;have d:=dv (O:=O) (f:=rA O) l;rw[rA]at d;simp only at d;rw[yL c,CG,mf k,(vC l).1]at a;let⟨K,w,L,M⟩:=t;simp only at a d;let⟨m,y⟩:∃m:Int,m=z:=⟨_,rfl⟩;have n:=dv (O:=O) (f:=dz) k;rw[dz,<-y]at n;refine I BM ?_;repeat' first|refine H.op rfl (D.eQ rfl rfl h u) ?_;refine og BM (D.iM rfl rfl n rfl) ?_|refine H.op rfl (D.eQ rfl rfl h c) ?_;refine H.op rfl (D.quiet rfl) ?_;refine og BM (D.iM rfl rfl d rfl) ?_|refine cg BM (λj=>?_) λj=>?_|refine ag BM λ_ _=>?_
  all_goals first|rw[if_pos (by refine⟨Z,X,?_⟩;first|exact .inl X|exact .inr X)]at a;refine H.bK (_,w) [] ?_ ?_ cz;grind;simp only;omega|rw[if_neg X]at a;refine H.bK (_,v) [] ?_ ?_ cz;grind;simp only;omega
 have c:i=nl:=Z;rw[c,aR_ X,CG]at a;subst a;refine I BM ?_;refine xG BM ?_;refine fq ?_;exact⟨[],.aJ .v,rC,rfl⟩
end
end Go.Proofs.YtbdcmpknicjopaaGreat
