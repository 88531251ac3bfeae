import Derived.Test.YtbpabjmnhggajaaGreatOr25
namespace Go.Proofs.YtbpabjmnhggajaaGreat
set_option linter.all false
open Go.RowKit
variable {g:FuncId}{cs fs:List AV}
section
set_option maxRecDepth 100000
section
variable {w0:World}{ρ:Hd}
theorem Sj {F:Fence}(b:kW F) (n:Nat) (p:Addr) (w:World):CallsDIn F.plain n Tryz.prog 64 #[.pointer (some p)] .returning w λe c w'=>e=.returned (.tuple #[])/\c=.returning/\w'=w:=by
 refine callsDIn_of_wpSIn Tryz.func64 rfl (b.1 _) λa cs d=>?_;simp only[Tryz.ntmps64,bA_,aw_,aN_,Nat.reduceAdd,Nat.reduceSub,cF_,cG_,cH_,cI_,aK_,aR_];apply wpSIn_seq;apply wpSIn_region;simp[wpOpsSIn,go_sem,recoverD,d,Exit.thenS,b.1];refine wpSIn_of_wpIn rfl ?_;refine wpIn_block (wpIn_seq (wpIn_region ?_));simp[wpOpsIn,go_sem];refine wpIn_cond (t:=true) (by simp[Act.eval]) ?_;simp only[if_true];refine wpIn_region ?_;simp[wpOpsIn,go_sem,bodyPostS,results,Tryz.results64,Exit.inBlock];cases a;simp_all
theorem Sk {F:Fence}(c:kW F) (n:Nat) (b:Nat) (x e0:Int) (w:World) (g:w.cell? ⟨b,0,none⟩=some (.int .i64 x)) (i:w.frozen? ⟨b,0,none⟩=false) (d:b < w.heap.size) :
  CallsDIn F.plain n Tryz.prog 64 #[.pointer (some ⟨b,0,none⟩)] (.panicking (pR e0)) w λe j w'=>e=.returned (.tuple #[])/\j=.panicking [{ v:=Sh e0,recovered:=true }] /\
   w'=(w.alloc (.cells #[.int .i64 e0] 122)).setCell ⟨b,0,none⟩ (.int .i64 e0):=by
 have f:(w.alloc (.cells #[.int .i64 e0] 122)).heap[b]?=w.heap[b]?:=by
  simp only[World.alloc];rw[Array.getElem?_push_lt d,aG_ d]
 have k:(w.alloc (.cells #[.int .i64 e0] 122)).cell? ⟨b,0,none⟩=some (.int .i64 x):=(World.cell?_of_block f).trans g;have l:(w.alloc (.cells #[.int .i64 e0] 122)).frozen? ⟨b,0,none⟩=false:=by
  rw[<-i];simp only[World.frozen?,f]
 refine callsDIn_of_wpSIn Tryz.func64 rfl (c.1 _) λm cs o=>?_;simp only[Tryz.ntmps64,bA_,aw_,aN_,Nat.reduceAdd,Nat.reduceSub,cF_,cG_,cH_,cI_,aK_,aR_];apply wpSIn_seq;apply wpSIn_region;simp[wpOpsSIn,go_sem,recoverD,o,Exit.thenS,c.1,pR];refine wpSIn_of_wpIn rfl ?_;refine wpIn_block (wpIn_seq (wpIn_region ?_));simp[wpOpsIn,go_sem,Sh];refine wpIn_cond (t:=false) (by simp[Act.eval]) ?_;simp only[bn_,if_false];refine wpIn_seq (wpIn_region ?_);have p:∀w,(underlying 122).run Tryz.prog w=.ok (.struct (Tryz.prog.fieldsOf 122)) w:=λw=>by
  have h:Tryz.prog.underlying 122=some (.struct (Tryz.prog.fieldsOf 122)):=by kernel_rfl
  simp[underlying,h]
 have a:∀w,(Instr.typeAssert (.iface 122 (.agg #[.int .i64 e0])) 20 122 true).run Tryz.prog w=.ok (.tuple #[.agg #[.int .i64 e0],.bool true]) w:=λw=>by simp[Instr.typeAssert,p]
 simp[wpOpsIn,go_sem,a];refine wpIn_cond (t:=true) (by simp[Act.eval]) ?_;simp only[if_true];refine wpIn_seq (wpIn_region ?_);simp[wpOpsIn,go_sem];refine wpIn_region ?_;simp[wpOpsIn,go_sem,k,l];simp[bodyPostS,results,Tryz.results64,Exit.inBlock]
def aeH (a e:Int):af:=(nr af.none_ [iv a]).2.set 0 (some (.arr 1 [[iv e]] 0 true))
theorem zR {A:Nat->Prop}{g2:Gh}{S:af}{d:World}{a e:Int}{b:Nat}(m:St w0 A g2 S d) (h0:S.get 0=some (.arr 1 [[iv a]] 0 true)) (n:g2.al 0) (p:g2.ob 0=b) :
  d.cell? ⟨b,0,none⟩=some (.int .i64 a)/\d.frozen? ⟨b,0,none⟩=false/\b < d.heap.size/\Ext A g2 d g2 (d.setCell ⟨b,0,none⟩ (.int .i64 e))/\St w0 A g2 (S.set 0 (some (.arr 1 [[iv e]] 0 true))) (d.setCell ⟨b,0,none⟩ (.int .i64 e)):=by
 obtain⟨t,k3,cells,u,h,F,G,H,v,I,J⟩:=m.cT 0 _ h0 n;rw[p]at t k3 h;obtain⟨x,y,l⟩:=(v 0 _ rfl).2 0 _ rfl;have l:=b_ l;subst l;have q:d.cell? ⟨b,0,none⟩=some (.int .i64 a):=by rw[cell_of_row d b _ cells u (0,0) h];simpa using y
 have r:d.frozen? ⟨b,0,none⟩=false:=by simp[World.frozen?,h]
 have z:sD Tryz.prog S 29 (iv e) (.pt 0 1 0 0)=some (S.set 0 (some (.arr 1 [[iv e]] 0 true))):=by
  have:ep Tryz.prog 29=some 1:=by kernel_rfl
  simp only[sD,h0,this]
  rfl
 have B:aN g2 d (.pt 0 1 0 0) (.pointer (some ⟨b,0,none⟩)):=by
  have:=aN.pt (g:=g2) (w:=d) (k:=0) (sz:=1) (i:=0) (j:=0) n;rw[p]at this;exact this
 obtain⟨c,o,L,s,f,_,C,D⟩:=CH m z B (x:=.int .i64 e) .v;simp only[Value.pointer.injEq,oI_,Addr.mk.injEq,and_true]at s;obtain⟨rfl,rfl⟩:=s;have E:(storeVar 29 ⟨b,0,none⟩ (.int .i64 e)).run Tryz.prog d=.ok () (d.setCell ⟨b,0,none⟩ (.int .i64 e)):=by simp[go_sem,q,r]
 rw[E]at f;injection f with _ f;subst f;exact⟨q,r,k3,C,D⟩
theorem XF (u:kc (fs++cs)) (h:ah Tryz.prog w0 g (fs++cs) (.aL [])):ah Tryz.prog w0 28 [.fn (.func g) fs cs] (iv 0):=by
 refine⟨.v,aeH 0 0,Tryz.call28,λF m A O b w c P Q=>?_⟩;obtain⟨z,B⟩:=Q;obtain⟨C,rfl⟩:∃C,b=#[C]:=by
  obtain⟨l⟩:=b
  match l,z with
  |[x],_=>exact⟨x,rfl⟩
 obtain⟨o,p,rfl,R,S⟩:=Cm (B 0 _ _ rfl rfl);clear B z;have D:=C6 (w0:=w0) (A:=A) (cs:=[iv 0]) (cells:=#[.int .i64 0]) (ty:=29) P ⟨rfl,λi a x d j=>by
  match i,d,j with
  |0,d,j=>obtain rfl:=oJ_ d;obtain rfl:=oJ_ j;exact .v⟩
 obtain⟨k,E⟩:∃k:World,k=w.alloc (.cells #[.int .i64 0] 29):=⟨_,rfl⟩;rw[<-E]at D;obtain⟨q,G,T,H⟩:=D;have U:mj q k (fs++cs) (o++p):=by
  have:=lJ R S;exact⟨this.1,λi a x d j=>(this.2 i a x d j).later H.toLater⟩
 have V:=(h.RK u (nr af.none_ [iv 0]).2).2 F.plain (m - 1) A q (o++p) k c.plain T U;have key:CallsIn F.plain m Tryz.prog 28 #[.func (.func g) o p] w λe r=>∃v s,e=.returned v/\aN s r (iv 0) v/\St w0 A s (aeH 0 0) r/\Ext A O w s r:=by
  refine callsIn_of_wp_defers Tryz.func28 rfl (c.1 _) ?_ rfl;simp only[Tryz.ntmps28,bA_,aw_,aN_,Nat.reduceAdd,Nat.reduceSub,cF_,cG_,cH_,cI_,aK_,aR_];refine wpIn_seq (wpIn_region ?_);simp[wpOpsIn,go_sem];rw[<-E];have W:∀(fn:Fn) (first cap:Array Value) (w:World),(Instr.makeFunc fn first cap).run Tryz.prog w=.ok (.func fn first cap) w:=λ_ _ _ _=>rfl;refine wpIn_seq (wpIn_region ?_);simp[wpOpsIn,go_sem,W];refine wpIn_seq (wpIn_region ?_);simp[wpOpsIn,go_sem];refine⟨c.1 g,?_⟩;rw[(h.RK u af.none_).1 (o++p) k,Oper.uponIn_enter];refine⟨λn=>(by rw[show F.plain.depth=F.depth from rfl,c.2.1]at n;cases n),V.mono ?_⟩;rintro e X ⟨v,I,rfl,_,Y,t⟩;simp only;obtain⟨J,Z⟩:q.al 0/\q.ob 0=w.heap.size:=by
   generalize K:Value.pointer (some ⟨w.heap.size,0,none⟩)=y at G;cases G with
   |pt hk=>simp[nr,af.none_]at K;exact⟨hk,K.symm⟩
  have L:=t.al 0 J;have M:I.ob 0=w.heap.size:=(t.ob 0 J).trans Z;obtain⟨hc,hz,aw,x7,N⟩:=zR (e:=0) Y rfl L M;refine wpIn_seq (wpIn_region ?_);simp[wpOpsIn,go_sem,hc,hz];refine wpIn_ret ?_;refine leavesIn_cons (f:=64) (args:=#[.pointer (some ⟨w.heap.size,0,none⟩)]) (by simp) (λn=>(by rw[show F.plain.depth=F.depth from rfl,c.2.1]at n;cases n)) (by simp[go_sem]) (λg hg=>c.1 g) ?_;refine (Sj c _ _ _).mono ?_;rintro e u' om ⟨rfl,rfl,rfl⟩;have Cl:(X.setCell ⟨w.heap.size,0,none⟩ (.int .i64 0)).cell? ⟨w.heap.size,0,none⟩=some (.int .i64 0):=(zR (e:=0) N rfl L M).1;simp[LeavesIn,settle,results,Tryz.results28,go_sem,Cl];exact⟨I,.v,N,(H.trans t).trans x7⟩
 exact key
theorem XG {e0:Int}(H:kc (fs++cs)) (h:v7 Tryz.prog w0 g (fs++cs) (pR e0)):ah Tryz.prog w0 28 [.fn (.func g) fs cs] (iv e0):=by
 refine⟨.v,(nr (nr af.none_ [iv 0]).2 [iv e0]).2.set 0 (some (.arr 1 [[iv e0]] 0 true)),Tryz.call28,λF m A V b w j W X=>?_⟩;obtain⟨I,J⟩:=X;obtain⟨K,rfl⟩:∃K,b=#[K]:=by
  obtain⟨l⟩:=b
  match l,I with
  |[x],_=>exact⟨x,rfl⟩
 obtain⟨q,r,rfl,Y,Z⟩:=Cm (J 0 _ _ rfl rfl);clear J I;have L:=C6 (w0:=w0) (A:=A) (cs:=[iv 0]) (cells:=#[.int .i64 0]) (ty:=29) W ⟨rfl,λi a x c d=>by
  match i,c,d with
  |0,c,d=>obtain rfl:=oJ_ c;obtain rfl:=oJ_ d;exact .v⟩
 obtain⟨k,M⟩:∃k:World,k=w.alloc (.cells #[.int .i64 0] 29):=⟨_,rfl⟩;rw[<-M]at L;obtain⟨s,N,mP,O⟩:=L;have lu:mj s k (fs++cs) (q++r):=by
  have:=lJ Y Z;exact⟨this.1,λi a x c d=>(this.2 i a x c d).later O.toLater⟩
 have b9:=(h.LY H (S:=(nr af.none_ [iv 0]).2) (iq.refl _ _)).2 F.plain (m - 1) A s (q++r) k j.plain mP lu;have key:CallsIn F.plain m Tryz.prog 28 #[.func (.func g) q r] w λe t=>∃v u,e=.returned v/\aN u t (iv e0) v/\St w0 A u ((nr (nr af.none_ [iv 0]).2 [iv e0]).2.set 0 (some (.arr 1 [[iv e0]] 0 true))) t/\Ext A V w u t:=by
  refine callsIn_of_wp_defers Tryz.func28 rfl (j.1 _) ?_ rfl;simp only[Tryz.ntmps28,bA_,aw_,aN_,Nat.reduceAdd,Nat.reduceSub,cF_,cG_,cH_,cI_,aK_,aR_];refine wpIn_seq (wpIn_region ?_);simp[wpOpsIn,go_sem];rw[<-M];have zS:∀(fn:Fn) (first cap:Array Value) (w:World),(Instr.makeFunc fn first cap).run Tryz.prog w=.ok (.func fn first cap) w:=λ_ _ _ _=>rfl;refine wpIn_seq (wpIn_region ?_);simp[wpOpsIn,go_sem,zS];refine wpIn_seq (wpIn_region ?_);simp[wpOpsIn,go_sem];refine⟨j.1 g,?_⟩;rw[(h.LY H (S:=af.none_) (iq.refl _ _)).1 (q++r) k,Oper.uponIn_enter];refine⟨λn=>(by rw[show F.plain.depth=F.depth from rfl,j.2.1]at n;cases n),b9.mono ?_⟩;rintro e w2 ⟨g2,rfl,P,z⟩;simp only;obtain⟨Q,oy⟩:s.al 0/\s.ob 0=w.heap.size:=by
   generalize R:Value.pointer (some ⟨w.heap.size,0,none⟩)=y at N;cases N with
   |pt hk=>simp[nr,af.none_]at R;exact⟨hk,R.symm⟩
  have B:=z.al 0 Q;have T:g2.ob 0=w.heap.size:=(z.ob 0 Q).trans oy;obtain⟨hc,hz,aw,_,_⟩:=zR (e:=0) P rfl B T;have C:=C6 (w0:=w0) (A:=A) (cs:=[iv e0]) (cells:=#[.int .i64 e0]) (ty:=122) P ⟨rfl,λi a x c d=>by
   match i,c,d with
   |0,c,d=>obtain rfl:=oJ_ c;obtain rfl:=oJ_ d;exact .v⟩
  obtain⟨g3,hr3,BR,D⟩:=C;have U:=D.al 0 B;have o:g3.ob 0=w.heap.size:=(D.ob 0 B).trans T;obtain⟨Cl,Qm,y9,E,p⟩:=zR (e:=e0) BR rfl U o;have G:=(zR (e:=e0) p rfl U o).1;show LeavesIn F.plain m Tryz.prog Tryz.f28 _ _ _ (.panicking (pR e0)) w2;refine leavesIn_cons (f:=64) (args:=#[.pointer (some ⟨w.heap.size,0,none⟩)]) (by simp) (λn=>(by rw[show F.plain.depth=F.depth from rfl,j.2.1]at n;cases n)) (by simp[go_sem]) (λg hg=>j.1 g) ?_;refine (Sk j _ _ 0 e0 _ hc hz aw).mono ?_;rintro e u' om ⟨rfl,rfl,rfl⟩;simp[LeavesIn,settle,results,Tryz.results28,go_sem,G];exact⟨g3,.v,p,((O.trans z).trans D).trans E⟩
 exact key
theorem XH {b:Bool}{e0:Int}(a:kc (fs++cs)) (h:KW Tryz.prog w0 g (fs++cs) b (.aL []) (pR e0)):ah Tryz.prog w0 28 [.fn (.func g) fs cs] (iv (if b then 0 else e0)):=by
 cases b with
 |true=>exact XF a (h.1 rfl)
 |false=>exact XG a (h.2 rfl)
end
end
end Go.Proofs.YtbpabjmnhggajaaGreat
