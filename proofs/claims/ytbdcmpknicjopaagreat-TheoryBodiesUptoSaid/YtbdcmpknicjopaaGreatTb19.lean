import Derived.Test.YtbdcmpknicjopaaGreatTb18
namespace Go.Proofs.YtbdcmpknicjopaaGreat
set_option linter.all false
set_option maxRecDepth 100000
open Go.RowKit Proofs.Tryz
variable{O:Hd}{Y:World}{cs fs:List AV}{g:FuncId}
section
attribute [local irreducible] ao aF D H
def apn:=aD func158 call158
def qe:List Nat:=[10,16,3,2,0,9,11,8,5,15,17,14,7]
def apo:=aD func159 call159
def qf:List Nat:=[10,16,3,2,0,9,11,8,5,15,17,14,7]
def IW(a:List Tm):Prop:=a.length<=1099511627776/\dS a/\(aZ a).length<=1099511627776
def at9(x:At)(h1:x.a.length<=1099511627776)(h2:dS x.a)(h3:(aZ x.a).length<=1099511627776):ab Y 129 [at_ O x] (aY O aR false (varsOf x.a)):=KH x h1 h2 h3
def aua(x:Gl)(h1:x.a.length<=1099511627776)(h2:dS x.a)(h3:(aZ x.a).length<=1099511627776):ab Y 127 [gl O x] (aY O aR false (varsOf x.a)):=DO x h1 h2 h3
def E7(l:List At):List Int:=l.flatMap λx=>varsOf x.a
def IX(L:List (List At)):List Int:=L.flatMap E7
def rowAt(O:Hd)(l:List At):List AV:=[fI O l]
theorem WI(L:List (List At)):Pure (aY O (rowAt O) true L):=ew λx _ a b=>by cases ak_.1 b;exact cR x
theorem aub(L:List (List At))(hl:L.length<=1099511627776)(C:∀l∈L,l.length<=1099511627776/\∀x∈l,IW x.a)(R:List Int)(o:R=IX L)(hn:R.length<=1099511627776):∃len,len=R.length/\aF prog Y 158 [aY O (rowAt O) true L] (aw [] 0) (.gr 0 1 len) (aw [(0,tf O R)] 1):=by
 refine⟨_,rfl,?_⟩;let⟨E,F⟩:=aq R.length;rw[<-F];have G:=WI (O:=O) L;refine sc 0 1 apn ?_;refine Z qe ?_;repeat' first|refine lg qe λm hm=>?_
 refine cr (τ:=List Int×Nat) 0 1 [] (λp=>[(3,.gr 0 1 p.2.2),(8,aY O (rowAt O) true L),(9,.v (.int .i64 m)),(10,.v (.int .i64 p.1))]) [] (λp=>[(0,tf O p.2.1)]) L.length (λk p=>R=p.2.1++IX (L.drop k)/\p.2.2=p.2.1.length) ([],0) ⟨by simpa using o,rfl⟩ ?_;rintro j k⟨K,len⟩r hk⟨c,e⟩;simp only at r c e;clear o;refine Z qe ?_;by_cases M:k<L.length
 ·let⟨y,s,N⟩:=aA M;let⟨YQ,g⟩:=C y (am_ s);let⟨P,t⟩:=aq (IX (L.drop (k+1)));rw[N,IX,aV_,<-IX,<-t]at c;repeat' first|refine og qe (D.bh r s) ?_|refine H.int rfl (D.len rfl) λQ S=>?_;rw[az]at S;refine Z qe ?_|refine cg qe (λb=>?_) λb=>?_|refine xG qe ?_|refine fq ?_
  all_goals first|omega|skip
  refine cr (τ:=List Int×Nat) 1 2 [(1,0)] (λp=>[(3,.gr 1 1 p.2.2),(8,aY O (rowAt O) true L),(9,.v (.int .i64 m)),(10,.v (.int .i64 j)),(14,fI O y),(15,.v (.int .i64 Q)),(16,.v (.int .i64 p.1))]) [] (λp=>[(1,tf O p.2.1)]) y.length (λq p=>R=p.2.1++(E7 (y.drop q)++P)/\p.2.2=p.2.1.length) (K,len) ⟨by simpa using c,e⟩ ?_;rintro i q⟨h,u⟩v hq⟨a,d⟩;simp only at v a d;clear c e;refine Z qe ?_;by_cases T:q<y.length
  ·let⟨x,w,W⟩:=aA T;let⟨Ba,Gk,n⟩:=g x (am_ w);have z:=at9 (Y:=Y) (O:=O) x Ba Gk n;rw[W,E7,aV_,<-E7]at a;let⟨V,A⟩:=aq (varsOf x.a);rw[<-A]at a z;have ml:h.length+V.length<=1099511627776:=by have:=congrArg List.length a;simp only[ar_]at this;omega
   clear A;let⟨xn,xa⟩:=x;repeat' first|refine og qe (D.bh v w) ?_|apply a8 qe z|refine H.abY (f:=aR) rfl rfl rfl d (λ_=>rfl) rfl (λ_=>rfl) (λ_=>rfl) X (λB=>?_) λoD wz B mj mh=>?_<;>refine Z qe ?_|refine cg qe (λb=>?_) λb=>?_|refine ag qe λ_ _=>?_|refine xG qe ?_
   all_goals first|omega|exact bP (_,h,u) [(1,1)] (q+1) ⟨by rw[a,B];rfl,d⟩|exact bP (_,oD,wz) [(1,3)] (q+1) ⟨by rw[a,mj];simp only[bn_],mh⟩
  ·rw[al_ X,E7,bt_,aL_]at a;repeat' first|refine cg qe (λb=>?_) λb=>?_|refine ag qe λ_ _=>?_|refine xG qe ?_
   all_goals first|omega|exact bP (_,h,u) [(0,1)] (k+1) ⟨by rw[a,t],d⟩
 ·rw[al_ X,IX,bt_,aG_]at c;repeat' first|refine cg qe (λb=>?_) λb=>?_|refine xG qe ?_|refine fq ?_
  all_goals first|omega|skip
  subst c;cases(X:len=E);exact⟨[(0,0)],.jI rfl rfl,⟨.inl ⟨_,rfl,.same wv⟩,trivial⟩,rfl⟩
def CM(l:List Gl):List Int:=l.flatMap λx=>varsOf x.a
def tr(L:List (List Gl)):List Int:=L.flatMap CM
def KY(O:Hd)(l:List Gl):List AV:=[dJ O l]
theorem WJ(L:List (List Gl)):Pure (aY O (KY O) true L):=ew λx _ a b=>by cases ak_.1 b;exact a6 x
theorem auc(L:List (List Gl))(hl:L.length<=1099511627776)(C:∀l∈L,l.length<=1099511627776/\∀x∈l,IW x.a)(R:List Int)(o:R=tr L)(hn:R.length<=1099511627776):∃len,len=R.length/\aF prog Y 159 [aY O (KY O) true L] (aw [] 0) (.gr 0 1 len) (aw [(0,tf O R)] 1):=by
 refine⟨_,rfl,?_⟩;let⟨E,F⟩:=aq R.length;rw[<-F];have G:=WJ (O:=O) L;refine sc 0 1 apo ?_;refine Z qf ?_;repeat' first|refine lg qf λm hm=>?_
 refine cr (τ:=List Int×Nat) 0 1 [] (λp=>[(3,.gr 0 1 p.2.2),(8,aY O (KY O) true L),(9,.v (.int .i64 m)),(10,.v (.int .i64 p.1))]) [] (λp=>[(0,tf O p.2.1)]) L.length (λk p=>R=p.2.1++tr (L.drop k)/\p.2.2=p.2.1.length) ([],0) ⟨by simpa using o,rfl⟩ ?_;rintro j k⟨K,len⟩r hk⟨c,e⟩;simp only at r c e;clear o;refine Z qf ?_;by_cases M:k<L.length
 ·let⟨y,s,N⟩:=aA M;let⟨YQ,g⟩:=C y (am_ s);let⟨P,t⟩:=aq (tr (L.drop (k+1)));rw[N,tr,aV_,<-tr,<-t]at c;repeat' first|refine og qf (D.bh r s) ?_|refine H.int rfl (D.len rfl) λQ S=>?_;rw[az]at S;refine Z qf ?_|refine cg qf (λb=>?_) λb=>?_|refine xG qf ?_|refine fq ?_
  all_goals first|omega|skip
  refine cr (τ:=List Int×Nat) 1 2 [(1,0)] (λp=>[(3,.gr 1 1 p.2.2),(8,aY O (KY O) true L),(9,.v (.int .i64 m)),(10,.v (.int .i64 j)),(14,dJ O y),(15,.v (.int .i64 Q)),(16,.v (.int .i64 p.1))]) [] (λp=>[(1,tf O p.2.1)]) y.length (λq p=>R=p.2.1++(CM (y.drop q)++P)/\p.2.2=p.2.1.length) (K,len) ⟨by simpa using c,e⟩ ?_;rintro i q⟨h,u⟩v hq⟨a,d⟩;simp only at v a d;clear c e;refine Z qf ?_;by_cases T:q<y.length
  ·let⟨x,w,W⟩:=aA T;let⟨Ba,Gk,n⟩:=g x (am_ w);have z:=aua (Y:=Y) (O:=O) x Ba Gk n;rw[W,CM,aV_,<-CM]at a;let⟨V,A⟩:=aq (varsOf x.a);rw[<-A]at a z;have ml:h.length+V.length<=1099511627776:=by have:=congrArg List.length a;simp only[ar_]at this;omega
   clear A;let⟨xo,xn,xa⟩:=x;repeat' first|refine og qf (D.bh v w) ?_|apply a8 qf z|refine H.abY (f:=aR) rfl rfl rfl d (λ_=>rfl) rfl (λ_=>rfl) (λ_=>rfl) X (λB=>?_) λoD wz B mj mh=>?_<;>refine Z qf ?_|refine cg qf (λb=>?_) λb=>?_|refine ag qf λ_ _=>?_|refine xG qf ?_
   all_goals first|omega|exact bP (_,h,u) [(1,1)] (q+1) ⟨by rw[a,B];rfl,d⟩|exact bP (_,oD,wz) [(1,3)] (q+1) ⟨by rw[a,mj];simp only[bn_],mh⟩
  ·rw[al_ X,CM,bt_,aL_]at a;repeat' first|refine cg qf (λb=>?_) λb=>?_|refine ag qf λ_ _=>?_|refine xG qf ?_
   all_goals first|omega|exact bP (_,h,u) [(0,1)] (k+1) ⟨by rw[a,t],d⟩
 ·rw[al_ X,tr,bt_,aG_]at c;repeat' first|refine cg qf (λb=>?_) λb=>?_|refine xG qf ?_|refine fq ?_
  all_goals first|omega|skip
  subst c;cases(X:len=E);exact⟨[(0,0)],.jI rfl rfl,⟨.inl ⟨_,rfl,.same wv⟩,trivial⟩,rfl⟩
theorem aj2(L:List (List Gl))(a:L.length<=1099511627776)(b:∀l∈L,l.length<=1099511627776/\∀x∈l,IW x.a)(c:(tr L).length<=1099511627776):ab Y 159 [aY O (KY O) true L] (aY O aR false (tr L)):=by let⟨len,d,e⟩:=auc (Y:=Y) (O:=O) L a b _ rfl c;exact ao.zJ e (aH.grow rfl d) (bJ _)
end
theorem WK{F:Fence}(b:my F)(n:Nat)(p:Addr)(w:World):CallsDIn F.plain n prog 154 #[.pointer (some p)] .returning w λe c w'=>e=.returned (.tuple #[])/\c=.returning/\w'=w:=by refine callsDIn_of_wpSIn func154 rfl (b.1 _) λa cs d=>?_;simp only[ntmps154,bv_,aC_,bg_,Nat.reduceAdd,Nat.reduceSub,db_,dc_,dd_,de_,aL_,aP_];apply wpSIn_seq;apply wpSIn_region;simp[wpOpsSIn,go_sem,recoverD,d,Exit.thenS,b.1];refine wpSIn_of_wpIn rfl ?_;refine wpIn_block (wpIn_seq (wpIn_region ?_));simp[wpOpsIn,go_sem];refine wpIn_cond (t:=true) (by simp[Act.eval]) ?_;simp only[if_true];refine wpIn_region ?_;simp[wpOpsIn,go_sem,bodyPostS,results,results154,Exit.inBlock];cases a;simp_all
theorem WL{F:Fence}(d:my F)(n:Nat)(b:Nat)(x a:Int)(w:World)(i:w.cell? ⟨b,0,none⟩=some (.int .i64 x))(j:w.frozen? ⟨b,0,none⟩=false)(f:b<w.heap.size):CallsDIn F.plain n prog 154 #[.pointer (some ⟨b,0,none⟩)] (.panicking (sA a)) w λe k w'=>e=.returned (.tuple #[])/\k=.panicking [{v:=WC a,recovered:=true }] /\w'=(w.alloc (.cells #[.int .i64 a] 212)).setCell ⟨b,0,none⟩ (.int .i64 a):=by
 have g:(w.alloc (.cells #[.int .i64 a] 212)).heap[b]?=w.heap[b]?:=by simp only[World.alloc];rw[Array.getElem?_push_lt f,aI_ f]
 have l:(w.alloc (.cells #[.int .i64 a] 212)).cell? ⟨b,0,none⟩=some (.int .i64 x):=(World.cell?_of_block g).trans i;have m:(w.alloc (.cells #[.int .i64 a] 212)).frozen? ⟨b,0,none⟩=false:=by rw[<-j];simp only[World.frozen?,g]
 refine callsDIn_of_wpSIn func154 rfl (d.1 _) λo cs p=>?_;simp only[ntmps154,bv_,aC_,bg_,Nat.reduceAdd,Nat.reduceSub,db_,dc_,dd_,de_,aL_,aP_];apply wpSIn_seq;apply wpSIn_region;simp[wpOpsSIn,go_sem,recoverD,p,Exit.thenS,d.1,sA];refine wpSIn_of_wpIn rfl ?_;refine wpIn_block (wpIn_seq (wpIn_region ?_));simp[wpOpsIn,go_sem,WC];refine wpIn_cond (t:=false) (by simp[Act.eval]) ?_;simp only[bw_,if_false];refine wpIn_seq (wpIn_region ?_);have q:∀w,(underlying 212).run prog w=.ok (.struct (prog.fieldsOf 212)) w:=λw=>by
  have h:prog.underlying 212=some (.struct (prog.fieldsOf 212)):=by kernel_rfl
  simp[underlying,h]
 have c:∀w,(Instr.typeAssert (.iface 212 (.agg #[.int .i64 a])) 20 212 true).run prog w=.ok (.tuple #[.agg #[.int .i64 a],.bool true]) w:=λw=>by simp[Instr.typeAssert,q]
 simp[wpOpsIn,go_sem,c];refine wpIn_cond (t:=true) (by simp[Act.eval]) ?_;simp only[if_true];refine wpIn_seq (wpIn_region ?_);simp[wpOpsIn,go_sem];refine wpIn_region ?_;simp[wpOpsIn,go_sem,l,m];simp[bodyPostS,results,results154,Exit.inBlock]
def aj4(a e:Int):ah:=(oY ah.none_ [iv a]).2.set 0 (some (.arr 1 [[iv e]] 0 true))
theorem CN{A:Nat->Prop}{g2:Gh}{S:ah}{d:World}{a e:Int}{b:Nat}(m:St Y A g2 S d)(h0:S.get 0=some (.arr 1 [[iv a]] 0 true))(n:g2.al 0)(p:g2.ob 0=b):d.cell? ⟨b,0,none⟩=some (.int .i64 a)/\d.frozen? ⟨b,0,none⟩=false/\b<d.heap.size/\Ext A g2 d g2 (d.setCell ⟨b,0,none⟩ (.int .i64 e))/\St Y A g2 (S.set 0 (some (.arr 1 [[iv e]] 0 true))) (d.setCell ⟨b,0,none⟩ (.int .i64 e)):=by
 let⟨t,k3,cells,u,h,G,J,K,v,L,M⟩:=m.cY 0 _ h0 n;rw[p]at t k3 h;let⟨x,y,l⟩:=(v 0 _ rfl).2 0 _ rfl;have l:=cC l;subst l;have q:d.cell? ⟨b,0,none⟩=some (.int .i64 a):=by rw[cell_of_row d b _ cells u (0,0) h];simpa using y
 have r:d.frozen? ⟨b,0,none⟩=false:=by simp[World.frozen?,h]
 have z:uW prog S 69 (iv e) (.pt 0 1 0 0)=some (S.set 0 (some (.arr 1 [[iv e]] 0 true))):=by
  have:eL prog 69=some 1:=by kernel_rfl
  simp only[uW,h0,this];rfl
 have B:aN g2 d (.pt 0 1 0 0) (.pointer (some ⟨b,0,none⟩)):=by have:=aN.pt (g:=g2) (w:=d) (k:=0) (sz:=1) (i:=0) (j:=0) n;rw[p]at this;exact this
 let⟨c,o,P,s,f,_,C,E⟩:=FB m z B (x:=.int .i64 e) .v;simp only[Value.pointer.injEq,oI_,Addr.mk.injEq,and_true]at s;obtain⟨rfl,rfl⟩:=s;have F:(storeVar 69 ⟨b,0,none⟩ (.int .i64 e)).run prog d=.ok () (d.setCell ⟨b,0,none⟩ (.int .i64 e)):=by simp[go_sem,q,r]
 rw[F]at f;injection f with _ f;subst f;exact⟨q,r,k3,C,E⟩
theorem acq(u:iU (fs++cs))(h:ab Y g (fs++cs) (.aJ [])):ab Y 88 [.fn (.func g) fs cs] (iv 0):=by
 refine⟨.v,aj4 0 0,call88,λF m A S b w c T V=>?_⟩;let⟨z,B⟩:=V;obtain⟨C,rfl⟩:∃C,b=#[C]:=by let⟨l⟩:=b;match l,z with|[x],_=>exact⟨x,rfl⟩
 obtain⟨o,p,rfl,W,fF⟩:=Gq (B 0 _ _ rfl rfl);clear B z;have E:=Gr (Y:=Y) (A:=A) (cs:=[iv 0]) (cells:=#[.int .i64 0]) (ty:=69) T ⟨rfl,λi a x d j=>by match i,d,j with|0,d,j=>cases oJ_ d;cases oJ_ j;exact .v⟩;let⟨k,G⟩:∃k:World,k=w.alloc (.cells #[.int .i64 0] 69):=⟨_,rfl⟩;rw[<-G]at E;let⟨q,J,oO,K⟩:=E;have mJ:nL q k (fs++cs) (o++p):=by have:=nb W fF;exact⟨this.1,λi a x d j=>(this.2 i a x d j).later K.toLater⟩
 have cL:=(h.WM u (oY ah.none_ [iv 0]).2).2 F.plain (m-1) A q (o++p) k c.plain oO mJ;have key:CallsIn F.plain m prog 88 #[.func (.func g) o p] w λe r=>∃v s,e=.returned v/\aN s r (iv 0) v/\St Y A s (aj4 0 0) r/\Ext A S w s r:=by
  refine callsIn_of_wp_defers func88 rfl (c.1 _) ?_ rfl;simp only[ntmps88,bv_,aC_,bg_,Nat.reduceAdd,Nat.reduceSub,db_,dc_,dd_,de_,aL_,aP_];refine wpIn_seq (wpIn_region ?_);simp[wpOpsIn,go_sem];rw[<-G];have CO:∀(fn:Fn)(first cap:Array Value)(w:World),(Instr.makeFunc fn first cap).run prog w=.ok (.func fn first cap) w:=λ_ _ _ _=>rfl;refine wpIn_seq (wpIn_region ?_);simp[wpOpsIn,go_sem,CO];refine wpIn_seq (wpIn_region ?_);simp[wpOpsIn,go_sem];refine⟨c.1 g,?_⟩;rw[(h.WM u ah.none_).1 (o++p) k,Oper.uponIn_enter];refine⟨λn=>(by rw[show F.plain.depth=F.depth from rfl,c.2.1]at n;cases n),cL.mono ?_⟩;rintro e w2⟨v,L,rfl,_,yH,t⟩;simp only;let⟨M,qI⟩:q.al 0/\q.ob 0=w.heap.size:=by generalize N:Value.pointer (some ⟨w.heap.size,0,none⟩)=y at J;cases J with|pt hk=>simp[oY,ah.none_]at N;exact⟨hk,N.symm⟩
  have P:=t.al 0 M;have Q:L.ob 0=w.heap.size:=(t.ob 0 M).trans qI;let⟨hc,hz,au,vo,R⟩:=CN (e:=0) yH rfl P Q;refine wpIn_seq (wpIn_region ?_);simp[wpOpsIn,go_sem,hc,hz];refine wpIn_ret ?_;refine leavesIn_cons (f:=154) (args:=#[.pointer (some ⟨w.heap.size,0,none⟩)]) aB (λn=>by rw[show F.plain.depth=F.depth from rfl,c.2.1]at n;cases n) (by simp[go_sem]) (λg hg=>c.1 g) ?_;refine(WK c _ _ _).mono ?_;rintro e u' qB⟨rfl,rfl,rfl⟩;have zZ:(w2.setCell ⟨w.heap.size,0,none⟩ (.int .i64 0)).cell? ⟨w.heap.size,0,none⟩=some (.int .i64 0):=(CN (e:=0) R rfl P Q).1;simp[LeavesIn,settle,results,results88,go_sem,zZ];exact⟨L,.v,R,(K.trans t).trans vo⟩
 exact key
theorem acr{b:Int}(K:iU (fs++cs))(h:yZ prog Y g (fs++cs) (sA b)):ab Y 88 [.fn (.func g) fs cs] (iv b):=by
 refine⟨.v,(oY (oY ah.none_ [iv 0]).2 [iv b]).2.set 0 (some (.arr 1 [[iv b]] 0 true)),call88,λF m A gh c w k hS hA=>?_⟩;let⟨L,M⟩:=hA;obtain⟨N,rfl⟩:∃N,c=#[N]:=by let⟨l⟩:=c;match l,L with|[x],_=>exact⟨x,rfl⟩
 obtain⟨r,s,rfl,eg,fF⟩:=Gq (M 0 _ _ rfl rfl);clear M L;have P:=Gr (Y:=Y) (A:=A) (cs:=[iv 0]) (cells:=#[.int .i64 0]) (ty:=69) hS ⟨rfl,λi a x d j=>by match i,d,j with|0,d,j=>cases oJ_ d;cases oJ_ j;exact .v⟩;let⟨n,Q⟩:∃n:World,n=w.alloc (.cells #[.int .i64 0] 69):=⟨_,rfl⟩;rw[<-Q]at P;let⟨t,R,oO,T⟩:=P;have mJ:nL t n (fs++cs) (r++s):=by have:=nb eg fF;exact⟨this.1,λi a x d j=>(this.2 i a x d j).later T.toLater⟩
 have cL:=(h.QM K (S:=(oY ah.none_ [iv 0]).2) (iW.refl _ _)).2 F.plain (m-1) A t (r++s) n k.plain oO mJ;have key:CallsIn F.plain m prog 88 #[.func (.func g) r s] w λe u=>∃v z,e=.returned v/\aN z u (iv b) v/\St Y A z ((oY (oY ah.none_ [iv 0]).2 [iv b]).2.set 0 (some (.arr 1 [[iv b]] 0 true))) u/\Ext A gh w z u:=by
  refine callsIn_of_wp_defers func88 rfl (k.1 _) ?_ rfl;simp only[ntmps88,bv_,aC_,bg_,Nat.reduceAdd,Nat.reduceSub,db_,dc_,dd_,de_,aL_,aP_];refine wpIn_seq (wpIn_region ?_);simp[wpOpsIn,go_sem];rw[<-Q];have CO:∀(fn:Fn)(first cap:Array Value)(w:World),(Instr.makeFunc fn first cap).run prog w=.ok (.func fn first cap) w:=λ_ _ _ _=>rfl;refine wpIn_seq (wpIn_region ?_);simp[wpOpsIn,go_sem,CO];refine wpIn_seq (wpIn_region ?_);simp[wpOpsIn,go_sem];refine⟨k.1 g,?_⟩;rw[(h.QM K (S:=ah.none_) (iW.refl _ _)).1 (r++s) n,Oper.uponIn_enter];refine⟨λo=>(by rw[show F.plain.depth=F.depth from rfl,k.2.1]at o;cases o),cL.mono ?_⟩;rintro e w2⟨g2,rfl,V,B⟩;simp only;let⟨W,qI⟩:t.al 0/\t.ob 0=w.heap.size:=by generalize hv:Value.pointer (some ⟨w.heap.size,0,none⟩)=y at R;cases R with|pt hk=>simp[oY,ah.none_]at hv;exact⟨hk,hv.symm⟩
  have C:=B.al 0 W;have QL:g2.ob 0=w.heap.size:=(B.ob 0 W).trans qI;let⟨hc,hz,au,_,_⟩:=CN (e:=0) V rfl C QL;have E:=Gr (Y:=Y) (A:=A) (cs:=[iv b]) (cells:=#[.int .i64 b]) (ty:=212) V ⟨rfl,λi a x d j=>by match i,d,j with|0,d,j=>cases oJ_ d;cases oJ_ j;exact .v⟩;let⟨g3,hr3,E8,G⟩:=E;have CQ:=G.al 0 C;have p:g3.ob 0=w.heap.size:=(G.ob 0 C).trans QL;let⟨zZ,hz3,sX,J,q⟩:=CN (e:=b) E8 rfl CQ p;have Zr:=(CN (e:=b) q rfl CQ p).1;show LeavesIn F.plain m prog f88 _ _ _ (.panicking (sA b)) w2;refine leavesIn_cons (f:=154) (args:=#[.pointer (some ⟨w.heap.size,0,none⟩)]) aB (λo=>by rw[show F.plain.depth=F.depth from rfl,k.2.1]at o;cases o) (by simp[go_sem]) (λg hg=>k.1 g) ?_;refine(WL k _ _ 0 b _ hc hz au).mono ?_;rintro e u' qB⟨rfl,rfl,rfl⟩;simp[LeavesIn,settle,results,results88,go_sem,Zr];exact⟨g3,.v,q,((T.trans B).trans G).trans J⟩
 exact key
theorem acs{b:Bool}{a:Int}(c:iU (fs++cs))(h:OX prog Y g (fs++cs) b (.aJ []) (sA a)):ab Y 88 [.fn (.func g) fs cs] (iv (if b then 0 else a)):=by cases b with|true=>exact acq c (h.1 rfl)|false=>exact acr c (h.2 rfl)
end Go.Proofs.YtbdcmpknicjopaaGreat
