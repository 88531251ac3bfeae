import Derived.Test.YtbdcmpknicjopaaGreatTp16
namespace Go.Proofs.YtbdcmpknicjopaaGreat
set_option linter.all false
set_option maxRecDepth 100000
open Go.RowKit Proofs.Tryz
variable{O:Hd}{Y:World}{cs fs:List AV}{g:FuncId}
section
attribute [local irreducible] ao aF D H
def aop:=aC func158 call158
def pQ:List Nat:=[10,16,3,2,0,9,11,8,5,15,17,14,7]
def aoq:=aC func159 call159
def pR:List Nat:=[10,16,3,2,0,9,11,8,5,15,17,14,7]
def Ik(a:List Tm):Prop:=a.length<=1099511627776/\dR a/\(aX a).length<=1099511627776
def asN(x:At)(h1:x.a.length<=1099511627776)(h2:dR x.a)(h3:(aX x.a).length<=1099511627776):ab Y 129 [at_ O x] (aY O aV false (varsOf x.a)):=J5 x h1 h2 h3
def asO(x:Gl)(h1:x.a.length<=1099511627776)(h2:dR x.a)(h3:(aX x.a).length<=1099511627776):ab Y 127 [gl O x] (aY O aV false (varsOf x.a)):=Dj x h1 h2 h3
def Ez(l:List At):List Int:=l.flatMap λx=>varsOf x.a
def Il(L:List (List At)):List Int:=L.flatMap Ez
def rowAt(O:Hd)(l:List At):List AV:=[fI O l]
theorem VJ(L:List (List At)):Pure (aY O (rowAt O) true L):=en λx _ a b=>by cases ar_.1 b;exact cQ x
theorem asP(L:List (List At))(hl:L.length<=1099511627776)(C:∀l∈L,l.length<=1099511627776/\∀x∈l,Ik x.a)(R:List Int)(o:R=Il L)(hn:R.length<=1099511627776):∃len,len=R.length/\aF prog Y 158 [aY O (rowAt O) true L] (aw [] 0) (.gr 0 1 len) (aw [(0,sV O R)] 1):=by
 refine⟨_,rfl,?_⟩;let⟨E,F⟩:=aq R.length;rw[<-F];have G:=VJ (O:=O) L;refine sc 0 1 aop ?_;refine I pQ ?_;repeat' first|refine lg pQ λm hm=>?_
 refine cC (τ:=List Int×Nat) 0 1 [] (λp=>[(3,.gr 0 1 p.2.2),(8,aY O (rowAt O) true L),(9,.v (.int .i64 m)),(10,.v (.int .i64 p.1))]) [] (λp=>[(0,sV O p.2.1)]) L.length (λk p=>R=p.2.1++Il (L.drop k)/\p.2.2=p.2.1.length) ([],0) ⟨by simpa using o,rfl⟩ ?_;rintro j k⟨K,len⟩r hk⟨c,e⟩;simp only at r c e;clear o;refine I pQ ?_;by_cases M:k<L.length
 ·let⟨y,s,N⟩:=aA M;let⟨Yl,g⟩:=C y (as_ s);let⟨P,t⟩:=aq (Il (L.drop (k+1)));rw[N,Il,aW_,<-Il,<-t]at c;repeat' first|refine og pQ (D.bh r s) ?_|refine H.int rfl (D.len rfl) λQ S=>?_;rw[az]at S;refine I pQ ?_|refine cg pQ (λb=>?_) λb=>?_|refine xG pQ ?_|refine fq ?_
  all_goals first|omega|skip
  refine cC (τ:=List Int×Nat) 1 2 [(1,0)] (λp=>[(3,.gr 1 1 p.2.2),(8,aY O (rowAt O) true L),(9,.v (.int .i64 m)),(10,.v (.int .i64 j)),(14,fI O y),(15,.v (.int .i64 Q)),(16,.v (.int .i64 p.1))]) [] (λp=>[(1,sV O p.2.1)]) y.length (λq p=>R=p.2.1++(Ez (y.drop q)++P)/\p.2.2=p.2.1.length) (K,len) ⟨by simpa using c,e⟩ ?_;rintro i q⟨h,u⟩v hq⟨a,d⟩;simp only at v a d;clear c e;refine I pQ ?_;by_cases T:q<y.length
  ·let⟨x,w,W⟩:=aA T;let⟨AJ,FI,n⟩:=g x (as_ w);have z:=asN (Y:=Y) (O:=O) x AJ FI n;rw[W,Ez,aW_,<-Ez]at a;let⟨V,A⟩:=aq (varsOf x.a);rw[<-A]at a z;have l8:h.length+V.length<=1099511627776:=by have:=congrArg List.length a;simp only[av_]at this;omega
   clear A;let⟨xn,xa⟩:=x;repeat' first|refine og pQ (D.bh v w) ?_|apply bk pQ z|refine H.aa4 (f:=aV) rfl rfl rfl d (λ_=>rfl) rfl (λ_=>rfl) (λ_=>rfl) Z (λB=>?_) λot wa B l6 lZ=>?_<;>refine I pQ ?_|refine cg pQ (λb=>?_) λb=>?_|refine ag pQ λ_ _=>?_|refine xG pQ ?_
   all_goals first|omega|exact bN (_,h,u) [(1,1)] (q+1) ⟨by rw[a,B];rfl,d⟩|exact bN (_,ot,wa) [(1,3)] (q+1) ⟨by rw[a,l6];simp only[bn_],lZ⟩
  ·rw[aq_ Z,Ez,bu_,aO_]at a;repeat' first|refine cg pQ (λb=>?_) λb=>?_|refine ag pQ λ_ _=>?_|refine xG pQ ?_
   all_goals first|omega|exact bN (_,h,u) [(0,1)] (k+1) ⟨by rw[a,t],d⟩
 ·rw[aq_ Z,Il,bu_,aI_]at c;repeat' first|refine cg pQ (λb=>?_) λb=>?_|refine xG pQ ?_|refine fq ?_
  all_goals first|omega|skip
  subst c;cases(Z:len=E);exact⟨[(0,0)],.jB rfl rfl,⟨.inl ⟨_,rfl,.same v_⟩,trivial⟩,rfl⟩
def Ch(l:List Gl):List Int:=l.flatMap λx=>varsOf x.a
def sY(L:List (List Gl)):List Int:=L.flatMap Ch
def Ke(O:Hd)(l:List Gl):List AV:=[er O l]
theorem VK(L:List (List Gl)):Pure (aY O (Ke O) true L):=en λx _ a b=>by cases ar_.1 b;exact a7 x
theorem asQ(L:List (List Gl))(hl:L.length<=1099511627776)(C:∀l∈L,l.length<=1099511627776/\∀x∈l,Ik x.a)(R:List Int)(o:R=sY L)(hn:R.length<=1099511627776):∃len,len=R.length/\aF prog Y 159 [aY O (Ke O) true L] (aw [] 0) (.gr 0 1 len) (aw [(0,sV O R)] 1):=by
 refine⟨_,rfl,?_⟩;let⟨E,F⟩:=aq R.length;rw[<-F];have G:=VK (O:=O) L;refine sc 0 1 aoq ?_;refine I pR ?_;repeat' first|refine lg pR λm hm=>?_
 refine cC (τ:=List Int×Nat) 0 1 [] (λp=>[(3,.gr 0 1 p.2.2),(8,aY O (Ke O) true L),(9,.v (.int .i64 m)),(10,.v (.int .i64 p.1))]) [] (λp=>[(0,sV O p.2.1)]) L.length (λk p=>R=p.2.1++sY (L.drop k)/\p.2.2=p.2.1.length) ([],0) ⟨by simpa using o,rfl⟩ ?_;rintro j k⟨K,len⟩r hk⟨c,e⟩;simp only at r c e;clear o;refine I pR ?_;by_cases M:k<L.length
 ·let⟨y,s,N⟩:=aA M;let⟨Yl,g⟩:=C y (as_ s);let⟨P,t⟩:=aq (sY (L.drop (k+1)));rw[N,sY,aW_,<-sY,<-t]at c;repeat' first|refine og pR (D.bh r s) ?_|refine H.int rfl (D.len rfl) λQ S=>?_;rw[az]at S;refine I pR ?_|refine cg pR (λb=>?_) λb=>?_|refine xG pR ?_|refine fq ?_
  all_goals first|omega|skip
  refine cC (τ:=List Int×Nat) 1 2 [(1,0)] (λp=>[(3,.gr 1 1 p.2.2),(8,aY O (Ke O) true L),(9,.v (.int .i64 m)),(10,.v (.int .i64 j)),(14,er O y),(15,.v (.int .i64 Q)),(16,.v (.int .i64 p.1))]) [] (λp=>[(1,sV O p.2.1)]) y.length (λq p=>R=p.2.1++(Ch (y.drop q)++P)/\p.2.2=p.2.1.length) (K,len) ⟨by simpa using c,e⟩ ?_;rintro i q⟨h,u⟩v hq⟨a,d⟩;simp only at v a d;clear c e;refine I pR ?_;by_cases T:q<y.length
  ·let⟨x,w,W⟩:=aA T;let⟨AJ,FI,n⟩:=g x (as_ w);have z:=asO (Y:=Y) (O:=O) x AJ FI n;rw[W,Ch,aW_,<-Ch]at a;let⟨V,A⟩:=aq (varsOf x.a);rw[<-A]at a z;have l8:h.length+V.length<=1099511627776:=by have:=congrArg List.length a;simp only[av_]at this;omega
   clear A;let⟨xo,xn,xa⟩:=x;repeat' first|refine og pR (D.bh v w) ?_|apply bk pR z|refine H.aa4 (f:=aV) rfl rfl rfl d (λ_=>rfl) rfl (λ_=>rfl) (λ_=>rfl) Z (λB=>?_) λot wa B l6 lZ=>?_<;>refine I pR ?_|refine cg pR (λb=>?_) λb=>?_|refine ag pR λ_ _=>?_|refine xG pR ?_
   all_goals first|omega|exact bN (_,h,u) [(1,1)] (q+1) ⟨by rw[a,B];rfl,d⟩|exact bN (_,ot,wa) [(1,3)] (q+1) ⟨by rw[a,l6];simp only[bn_],lZ⟩
  ·rw[aq_ Z,Ch,bu_,aO_]at a;repeat' first|refine cg pR (λb=>?_) λb=>?_|refine ag pR λ_ _=>?_|refine xG pR ?_
   all_goals first|omega|exact bN (_,h,u) [(0,1)] (k+1) ⟨by rw[a,t],d⟩
 ·rw[aq_ Z,sY,bu_,aI_]at c;repeat' first|refine cg pR (λb=>?_) λb=>?_|refine xG pR ?_|refine fq ?_
  all_goals first|omega|skip
  subst c;cases(Z:len=E);exact⟨[(0,0)],.jB rfl rfl,⟨.inl ⟨_,rfl,.same v_⟩,trivial⟩,rfl⟩
theorem ai7(L:List (List Gl))(a:L.length<=1099511627776)(b:∀l∈L,l.length<=1099511627776/\∀x∈l,Ik x.a)(c:(sY L).length<=1099511627776):ab Y 159 [aY O (Ke O) true L] (aY O aV false (sY L)):=by let⟨len,d,e⟩:=asQ (Y:=Y) (O:=O) L a b _ rfl c;exact ao.zu e (aI.grow rfl d) (bZ _)
end
theorem VL{F:Fence}(b:ml F)(n:Nat)(p:Addr)(w:World):CallsDIn F.plain n prog 154 #[.pointer (some p)] .returning w λe c w'=>e=.returned (.tuple #[])/\c=.returning/\w'=w:=by refine callsDIn_of_wpSIn func154 rfl (b.1 _) λa cs d=>?_;simp only[ntmps154,bB_,aC_,bi_,Nat.reduceAdd,Nat.reduceSub,da_,db_,dc_,dd_,aO_,aP_];apply wpSIn_seq;apply wpSIn_region;simp[wpOpsSIn,go_sem,recoverD,d,Exit.thenS,b.1];refine wpSIn_of_wpIn rfl ?_;refine wpIn_block (wpIn_seq (wpIn_region ?_));simp[wpOpsIn,go_sem];refine wpIn_cond (t:=true) (by simp[Act.eval]) ?_;simp only[if_true];refine wpIn_region ?_;simp[wpOpsIn,go_sem,bodyPostS,results,results154,Exit.inBlock];cases a;simp_all
theorem VM{F:Fence}(d:ml F)(n:Nat)(b:Nat)(x a:Int)(w:World)(i:w.cell? ⟨b,0,none⟩=some (.int .i64 x))(j:w.frozen? ⟨b,0,none⟩=false)(f:b<w.heap.size):CallsDIn F.plain n prog 154 #[.pointer (some ⟨b,0,none⟩)] (.panicking (rS a)) w λe k w'=>e=.returned (.tuple #[])/\k=.panicking [{v:=VE a,recovered:=true }] /\w'=(w.alloc (.cells #[.int .i64 a] 212)).setCell ⟨b,0,none⟩ (.int .i64 a):=by
 have g:(w.alloc (.cells #[.int .i64 a] 212)).heap[b]?=w.heap[b]?:=by simp only[World.alloc];rw[Array.getElem?_push_lt f,aM_ f]
 have l:(w.alloc (.cells #[.int .i64 a] 212)).cell? ⟨b,0,none⟩=some (.int .i64 x):=(World.cell?_of_block g).trans i;have m:(w.alloc (.cells #[.int .i64 a] 212)).frozen? ⟨b,0,none⟩=false:=by rw[<-j];simp only[World.frozen?,g]
 refine callsDIn_of_wpSIn func154 rfl (d.1 _) λo cs p=>?_;simp only[ntmps154,bB_,aC_,bi_,Nat.reduceAdd,Nat.reduceSub,da_,db_,dc_,dd_,aO_,aP_];apply wpSIn_seq;apply wpSIn_region;simp[wpOpsSIn,go_sem,recoverD,p,Exit.thenS,d.1,rS];refine wpSIn_of_wpIn rfl ?_;refine wpIn_block (wpIn_seq (wpIn_region ?_));simp[wpOpsIn,go_sem,VE];refine wpIn_cond (t:=false) (by simp[Act.eval]) ?_;simp only[bw_,if_false];refine wpIn_seq (wpIn_region ?_);have q:∀w,(underlying 212).run prog w=.ok (.struct (prog.fieldsOf 212)) w:=λw=>by
  have h:prog.underlying 212=some (.struct (prog.fieldsOf 212)):=by kernel_rfl
  simp[underlying,h]
 have c:∀w,(Instr.typeAssert (.iface 212 (.agg #[.int .i64 a])) 20 212 true).run prog w=.ok (.tuple #[.agg #[.int .i64 a],.bool true]) w:=λw=>by simp[Instr.typeAssert,q]
 simp[wpOpsIn,go_sem,c];refine wpIn_cond (t:=true) (by simp[Act.eval]) ?_;simp only[if_true];refine wpIn_seq (wpIn_region ?_);simp[wpOpsIn,go_sem];refine wpIn_region ?_;simp[wpOpsIn,go_sem,l,m];simp[bodyPostS,results,results154,Exit.inBlock]
def ai9(a e:Int):ah:=(oP ah.none_ [iv a]).2.set 0 (some (.arr 1 [[iv e]] 0 true))
theorem Cj{A:Nat->Prop}{g2:Gh}{S:ah}{d:World}{a e:Int}{b:Nat}(m:St Y A g2 S d)(h0:S.get 0=some (.arr 1 [[iv a]] 0 true))(n:g2.al 0)(p:g2.ob 0=b):d.cell? ⟨b,0,none⟩=some (.int .i64 a)/\d.frozen? ⟨b,0,none⟩=false/\b<d.heap.size/\Ext A g2 d g2 (d.setCell ⟨b,0,none⟩ (.int .i64 e))/\St Y A g2 (S.set 0 (some (.arr 1 [[iv e]] 0 true))) (d.setCell ⟨b,0,none⟩ (.int .i64 e)):=by
 let⟨t,k3,cells,u,h,G,J,K,v,L,M⟩:=m.cX 0 _ h0 n;rw[p]at t k3 h;let⟨x,y,l⟩:=(v 0 _ rfl).2 0 _ rfl;have l:=cA l;subst l;have q:d.cell? ⟨b,0,none⟩=some (.int .i64 a):=by rw[cell_of_row d b _ cells u (0,0) h];simpa using y
 have r:d.frozen? ⟨b,0,none⟩=false:=by simp[World.frozen?,h]
 have z:uG prog S 69 (iv e) (.pt 0 1 0 0)=some (S.set 0 (some (.arr 1 [[iv e]] 0 true))):=by
  have:eJ prog 69=some 1:=by kernel_rfl
  simp only[uG,h0,this];rfl
 have B:aO g2 d (.pt 0 1 0 0) (.pointer (some ⟨b,0,none⟩)):=by have:=aO.pt (g:=g2) (w:=d) (k:=0) (sz:=1) (i:=0) (j:=0) n;rw[p]at this;exact this
 let⟨c,o,P,s,f,_,C,E⟩:=E4 m z B (x:=.int .i64 e) .v;simp only[Value.pointer.injEq,oI_,Addr.mk.injEq,and_true]at s;obtain⟨rfl,rfl⟩:=s;have F:(storeVar 69 ⟨b,0,none⟩ (.int .i64 e)).run prog d=.ok () (d.setCell ⟨b,0,none⟩ (.int .i64 e)):=by simp[go_sem,q,r]
 rw[F]at f;injection f with _ f;subst f;exact⟨q,r,k3,C,E⟩
theorem abk(u:ja (fs++cs))(h:ab Y g (fs++cs) (.aL [])):ab Y 88 [.fn (.func g) fs cs] (iv 0):=by
 refine⟨.v,ai9 0 0,call88,λF m A S b w c T V=>?_⟩;let⟨z,B⟩:=V;obtain⟨C,rfl⟩:∃C,b=#[C]:=by let⟨l⟩:=b;match l,z with|[x],_=>exact⟨x,rfl⟩
 obtain⟨o,p,rfl,W,fA⟩:=FM (B 0 _ _ rfl rfl);clear B z;have E:=FO (Y:=Y) (A:=A) (cs:=[iv 0]) (cells:=#[.int .i64 0]) (ty:=69) T ⟨rfl,λi a x d j=>by match i,d,j with|0,d,j=>cases oJ_ d;cases oJ_ j;exact .v⟩;let⟨k,G⟩:∃k:World,k=w.alloc (.cells #[.int .i64 0] 69):=⟨_,rfl⟩;rw[<-G]at E;let⟨q,J,oF,K⟩:=E;have mD:nC q k (fs++cs) (o++p):=by have:=mV W fA;exact⟨this.1,λi a x d j=>(this.2 i a x d j).later K.toLater⟩
 have cJ:=(h.VN u (oP ah.none_ [iv 0]).2).2 F.plain (m-1) A q (o++p) k c.plain oF mD;have key:CallsIn F.plain m prog 88 #[.func (.func g) o p] w λe r=>∃v s,e=.returned v/\aO s r (iv 0) v/\St Y A s (ai9 0 0) r/\Ext A S w s r:=by
  refine callsIn_of_wp_defers func88 rfl (c.1 _) ?_ rfl;simp only[ntmps88,bB_,aC_,bi_,Nat.reduceAdd,Nat.reduceSub,da_,db_,dc_,dd_,aO_,aP_];refine wpIn_seq (wpIn_region ?_);simp[wpOpsIn,go_sem];rw[<-G];have Ck:∀(fn:Fn)(first cap:Array Value)(w:World),(Instr.makeFunc fn first cap).run prog w=.ok (.func fn first cap) w:=λ_ _ _ _=>rfl;refine wpIn_seq (wpIn_region ?_);simp[wpOpsIn,go_sem,Ck];refine wpIn_seq (wpIn_region ?_);simp[wpOpsIn,go_sem];refine⟨c.1 g,?_⟩;rw[(h.VN u ah.none_).1 (o++p) k,Oper.uponIn_enter];refine⟨λn=>(by rw[show F.plain.depth=F.depth from rfl,c.2.1]at n;cases n),cJ.mono ?_⟩;rintro e w2⟨v,L,rfl,_,ye,t⟩;simp only;let⟨M,qv⟩:q.al 0/\q.ob 0=w.heap.size:=by generalize N:Value.pointer (some ⟨w.heap.size,0,none⟩)=y at J;cases J with|pt hk=>simp[oP,ah.none_]at N;exact⟨hk,N.symm⟩
  have P:=t.al 0 M;have Q:L.ob 0=w.heap.size:=(t.ob 0 M).trans qv;let⟨hc,hz,au,u5,R⟩:=Cj (e:=0) ye rfl P Q;refine wpIn_seq (wpIn_region ?_);simp[wpOpsIn,go_sem,hc,hz];refine wpIn_ret ?_;refine leavesIn_cons (f:=154) (args:=#[.pointer (some ⟨w.heap.size,0,none⟩)]) aB (λn=>by rw[show F.plain.depth=F.depth from rfl,c.2.1]at n;cases n) (by simp[go_sem]) (λg hg=>c.1 g) ?_;refine(VL c _ _ _).mono ?_;rintro e u' qk⟨rfl,rfl,rfl⟩;have zF:(w2.setCell ⟨w.heap.size,0,none⟩ (.int .i64 0)).cell? ⟨w.heap.size,0,none⟩=some (.int .i64 0):=(Cj (e:=0) R rfl P Q).1;simp[LeavesIn,settle,results,results88,go_sem,zF];exact⟨L,.v,R,(K.trans t).trans u5⟩
 exact key
theorem abl{b:Int}(L:ja (fs++cs))(h:yD prog Y g (fs++cs) (rS b)):ab Y 88 [.fn (.func g) fs cs] (iv b):=by
 refine⟨.v,(oP (oP ah.none_ [iv 0]).2 [iv b]).2.set 0 (some (.arr 1 [[iv b]] 0 true)),call88,λF m A gh c w k hS hA=>?_⟩;let⟨M,N⟩:=hA;obtain⟨P,rfl⟩:∃P,c=#[P]:=by let⟨l⟩:=c;match l,M with|[x],_=>exact⟨x,rfl⟩
 obtain⟨r,s,rfl,dZ,fA⟩:=FM (N 0 _ _ rfl rfl);clear N M;have Q:=FO (Y:=Y) (A:=A) (cs:=[iv 0]) (cells:=#[.int .i64 0]) (ty:=69) hS ⟨rfl,λi a x d j=>by match i,d,j with|0,d,j=>cases oJ_ d;cases oJ_ j;exact .v⟩;let⟨n,R⟩:∃n:World,n=w.alloc (.cells #[.int .i64 0] 69):=⟨_,rfl⟩;rw[<-R]at Q;let⟨t,T,oF,V⟩:=Q;have mD:nC t n (fs++cs) (r++s):=by have:=mV dZ fA;exact⟨this.1,λi a x d j=>(this.2 i a x d j).later V.toLater⟩
 have cJ:=(h.PT L (S:=(oP ah.none_ [iv 0]).2) (iP.refl _ _)).2 F.plain (m-1) A t (r++s) n k.plain oF mD;have key:CallsIn F.plain m prog 88 #[.func (.func g) r s] w λe u=>∃v z,e=.returned v/\aO z u (iv b) v/\St Y A z ((oP (oP ah.none_ [iv 0]).2 [iv b]).2.set 0 (some (.arr 1 [[iv b]] 0 true))) u/\Ext A gh w z u:=by
  refine callsIn_of_wp_defers func88 rfl (k.1 _) ?_ rfl;simp only[ntmps88,bB_,aC_,bi_,Nat.reduceAdd,Nat.reduceSub,da_,db_,dc_,dd_,aO_,aP_];refine wpIn_seq (wpIn_region ?_);simp[wpOpsIn,go_sem];rw[<-R];have Ck:∀(fn:Fn)(first cap:Array Value)(w:World),(Instr.makeFunc fn first cap).run prog w=.ok (.func fn first cap) w:=λ_ _ _ _=>rfl;refine wpIn_seq (wpIn_region ?_);simp[wpOpsIn,go_sem,Ck];refine wpIn_seq (wpIn_region ?_);simp[wpOpsIn,go_sem];refine⟨k.1 g,?_⟩;rw[(h.PT L (S:=ah.none_) (iP.refl _ _)).1 (r++s) n,Oper.uponIn_enter];refine⟨λo=>(by rw[show F.plain.depth=F.depth from rfl,k.2.1]at o;cases o),cJ.mono ?_⟩;rintro e w2⟨g2,rfl,W,B⟩;simp only;let⟨nc,qv⟩:t.al 0/\t.ob 0=w.heap.size:=by generalize hv:Value.pointer (some ⟨w.heap.size,0,none⟩)=y at T;cases T with|pt hk=>simp[oP,ah.none_]at hv;exact⟨hk,hv.symm⟩
  have C:=B.al 0 nc;have PR:g2.ob 0=w.heap.size:=(B.ob 0 nc).trans qv;let⟨hc,hz,au,_,_⟩:=Cj (e:=0) W rfl C PR;have E:=FO (Y:=Y) (A:=A) (cs:=[iv b]) (cells:=#[.int .i64 b]) (ty:=212) W ⟨rfl,λi a x d j=>by match i,d,j with|0,d,j=>cases oJ_ d;cases oJ_ j;exact .v⟩;let⟨g3,hr3,EA,G⟩:=E;have Cm:=G.al 0 C;have p:g3.ob 0=w.heap.size:=(G.ob 0 C).trans PR;let⟨zF,hz3,sL,J,q⟩:=Cj (e:=b) EA rfl Cm p;have K:=(Cj (e:=b) q rfl Cm p).1;show LeavesIn F.plain m prog f88 _ _ _ (.panicking (rS b)) w2;refine leavesIn_cons (f:=154) (args:=#[.pointer (some ⟨w.heap.size,0,none⟩)]) aB (λo=>by rw[show F.plain.depth=F.depth from rfl,k.2.1]at o;cases o) (by simp[go_sem]) (λg hg=>k.1 g) ?_;refine(VM k _ _ 0 b _ hc hz au).mono ?_;rintro e u' qk⟨rfl,rfl,rfl⟩;simp[LeavesIn,settle,results,results88,go_sem,K];exact⟨g3,.v,q,((V.trans B).trans G).trans J⟩
 exact key
theorem abm{b:Bool}{a:Int}(c:ja (fs++cs))(h:Oc prog Y g (fs++cs) b (.aL []) (rS a)):ab Y 88 [.fn (.func g) fs cs] (iv (if b then 0 else a)):=by cases b with|true=>exact abk c (h.1 rfl)|false=>exact abl c (h.2 rfl)
end Go.Proofs.YtbdcmpknicjopaaGreat
