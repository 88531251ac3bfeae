import Derived.Test.YtbpabjmnhggajaaGreatOs27
namespace Go.Proofs.YtbpabjmnhggajaaGreat
set_option linter.unusedVariables false
set_option linter.unusedSimpArgs false
open Go.RowKit
section
set_option maxRecDepth 100000
section
variable {w0:World}{ρ:Hd}
theorem Nb {F:Fence}(hF:ir F) (n:Nat) (p:Addr) (w:World):CallsDIn F.plain n Tryz.prog 64 #[.pointer (some p)] .returning w fun e u' w'=>e=.returned (.tuple #[])/\u'=.returning/\w'=w:=by
 refine callsDIn_of_wpSIn Tryz.func64 rfl (hF.1 _) fun Nc cs hu=>?_;simp only[Tryz.ntmps64,List.size_toArray,List.length_cons,List.length_nil,Nat.reduceAdd,Nat.reduceSub,Array.replicate_succ,Array.replicate_zero,List.push_toArray,List.append_toArray,List.nil_append,List.cons_append];apply wpSIn_seq;apply wpSIn_region;simp[wpOpsSIn,go_sem,recoverD,hu,Exit.thenS,hF.1];refine wpSIn_of_wpIn rfl ?_;refine wpIn_block (wpIn_seq (wpIn_region ?_));simp[wpOpsIn,go_sem];refine wpIn_cond (t:=true) (by simp[Act.eval]) ?_;simp only[if_true];refine wpIn_region ?_;simp[wpOpsIn,go_sem,bodyPostS,results,Tryz.results64,Exit.inBlock];cases Nc;simp_all
theorem Nf {F:Fence}(hF:ir F) (n:Nat) (b:Nat) (x e0:Int) (w:World) (hc:w.cell? ⟨b,0,none⟩=some (.int .i64 x)) (hz:w.frozen? ⟨b,0,none⟩=false) (hb:b < w.heap.size) :
  CallsDIn F.plain n Tryz.prog 64 #[.pointer (some ⟨b,0,none⟩)] (.panicking (nE e0)) w fun e u' w'=>e=.returned (.tuple #[])/\u'=.panicking [{ v:=M3 e0,recovered:=true }] /\
   w'=(w.alloc (.cells #[.int .i64 e0] 122)).setCell ⟨b,0,none⟩ (.int .i64 e0):=by
 have yG:(w.alloc (.cells #[.int .i64 e0] 122)).heap[b]?=w.heap[b]?:=by
  simp only[World.alloc];rw[Array.getElem?_push_lt hb,Array.getElem?_eq_getElem hb]
 have c_:(w.alloc (.cells #[.int .i64 e0] 122)).cell? ⟨b,0,none⟩=some (.int .i64 x):=(World.cell?_of_block yG).trans hc;have LC:(w.alloc (.cells #[.int .i64 e0] 122)).frozen? ⟨b,0,none⟩=false:=by
  rw[<-hz];simp only[World.frozen?,yG]
 refine callsDIn_of_wpSIn Tryz.func64 rfl (hF.1 _) fun Nc cs hu=>?_;simp only[Tryz.ntmps64,List.size_toArray,List.length_cons,List.length_nil,Nat.reduceAdd,Nat.reduceSub,Array.replicate_succ,Array.replicate_zero,List.push_toArray,List.append_toArray,List.nil_append,List.cons_append];apply wpSIn_seq;apply wpSIn_region;simp[wpOpsSIn,go_sem,recoverD,hu,Exit.thenS,hF.1,nE];refine wpSIn_of_wpIn rfl ?_;refine wpIn_block (wpIn_seq (wpIn_region ?_));simp[wpOpsIn,go_sem,M3];refine wpIn_cond (t:=false) (by simp[Act.eval]) ?_;simp only[Bool.false_eq_true,if_false];refine wpIn_seq (wpIn_region ?_);have ic:∀ w,(underlying 122).run Tryz.prog w=.ok (.struct (Tryz.prog.fieldsOf 122)) w:=fun w=>by
  have h:Tryz.prog.underlying 122=some (.struct (Tryz.prog.fieldsOf 122)):=by kernel_rfl
  simp[underlying,h]
 have hta:∀ w,(Instr.typeAssert (.iface 122 (.agg #[.int .i64 e0])) 20 122 true).run Tryz.prog w=.ok (.tuple #[.agg #[.int .i64 e0],.bool true]) w:=fun w=>by simp[Instr.typeAssert,ic]
 simp[wpOpsIn,go_sem,hta];refine wpIn_cond (t:=true) (by simp[Act.eval]) ?_;simp only[if_true];refine wpIn_seq (wpIn_region ?_);simp[wpOpsIn,go_sem];refine wpIn_region ?_;simp[wpOpsIn,go_sem,c_,LC];simp[bodyPostS,results,Tryz.results64,Exit.inBlock]
def ZD (a e:Int):ae:=(jF ae.none_ [iv a]).2.set 0 (some (.arr 1 [[iv e]] 0 true))
theorem wc {A:Nat->Prop}{g2:Gh}{S:ae}{w2:World}{a e:Int}{b:Nat}(mM:St w0 A g2 S w2) (h0:S.get 0=some (.arr 1 [[iv a]] 0 true)) (hk:g2.al 0) (jm:g2.ob 0=b) :
  w2.cell? ⟨b,0,none⟩=some (.int .i64 a)/\w2.frozen? ⟨b,0,none⟩=false/\b < w2.heap.size/\Ext A g2 w2 g2 (w2.setCell ⟨b,0,none⟩ (.int .i64 e))/\St w0 A g2 (S.set 0 (some (.arr 1 [[iv e]] 0 true))) (w2.setCell ⟨b,0,none⟩ (.int .i64 e)):=by
 obtain⟨k2,k3,cells,ty,p1,p2,p3,p4,p5,p6,p7⟩:=mM.bT 0 _ h0 hk;rw[jm] at k2 k3 p1;obtain⟨x,lQ,bK⟩:=(p5 0 _ rfl).2 0 _ rfl;have bK:=bI bK;subst bK;have hc:w2.cell? ⟨b,0,none⟩=some (.int .i64 a):=by rw[cell_of_row w2 b _ cells ty (0,0) p1];simpa using lQ
 have hz:w2.frozen? ⟨b,0,none⟩=false:=by simp[World.frozen?,p1]
 have mj:ml Tryz.prog S 29 (iv e) (.pt 0 1 0 0)=some (S.set 0 (some (.arr 1 [[iv e]] 0 true))):=by
  have:cY Tryz.prog 29=some 1:=by kernel_rfl
  simp only[ml,h0,this]
  rfl
 have pK:aF g2 w2 (.pt 0 1 0 0) (.pointer (some ⟨b,0,none⟩)):=by
  have:=aF.pt (g:=g2) (w:=w2) (k:=0) (sz:=1) (i:=0) (j:=0) hk;rw[jm] at this;exact this
 obtain⟨c,o,w',e1,e2,_,e4,e5⟩:=tw mM mj pK (x:=.int .i64 e) .v;simp only[Value.pointer.injEq,oI_,Addr.mk.injEq,and_true] at e1;obtain⟨rfl,rfl⟩:=e1;have bZ:(storeVar 29 ⟨b,0,none⟩ (.int .i64 e)).run Tryz.prog w2=.ok () (w2.setCell ⟨b,0,none⟩ (.int .i64 e)):=by simp[go_sem,hc,hz]
 rw[bZ] at e2;injection e2 with _ e2;subst e2;exact⟨hc,hz,k3,e4,e5⟩
theorem SY {g:FuncId}{fs cs:List AV}(hp:dK (fs++cs)) (h:ah Tryz.prog w0 g (fs++cs) (.aG [])):ah Tryz.prog w0 28 [.fn (.func g) fs cs] (iv 0):=by
 refine⟨.v,ZD 0 0,Tryz.call28,fun F m A gh args' w hF hS hA=>?_⟩;obtain⟨bS,Bh⟩:=hA;obtain⟨fv,rfl⟩:∃ fv,args'=#[fv]:=by
  obtain⟨l⟩:=args'
  match l,bS with
  |[x],_=>exact⟨x,rfl⟩
 obtain⟨us,bs,rfl,ia,kN⟩:=vN (Bh 0 _ _ rfl rfl);clear Bh bS;have zt:=wa (w0:=w0) (A:=A) (cs:=[iv 0]) (cells:=#[.int .i64 0]) (ty:=29) hS ⟨rfl,fun i a x h1 h2=>by
  match i,h1,h2 with
  |0,h1,h2=>obtain rfl:=oJ_ h1;obtain rfl:=oJ_ h2;exact .v⟩
 obtain⟨w1,vO⟩:∃ w1:World,w1=w.alloc (.cells #[.int .i64 0] 29):=⟨_,rfl⟩;rw[<-vO] at zt;obtain⟨g1,F5,fJ,lq⟩:=zt;have qh:jc g1 w1 (fs++cs) (us++bs):=by
  have:=il ia kN;exact⟨this.1,fun i a x h1 h2=>(this.2 i a x h1 h2).later lq.toLater⟩
 have bH:=(h.BX hp (jF ae.none_ [iv 0]).2).2 F.plain (m - 1) A g1 (us++bs) w1 hF.plain fJ qh;have key:CallsIn F.plain m Tryz.prog 28 #[.func (.func g) us bs] w fun e w'=>∃ v g',e=.returned v/\aF g' w' (iv 0) v/\St w0 A g' (ZD 0 0) w'/\Ext A gh w g' w':=by
  refine callsIn_of_wp_defers Tryz.func28 rfl (hF.1 _) ?_ rfl;simp only[Tryz.ntmps28,List.size_toArray,List.length_cons,List.length_nil,Nat.reduceAdd,Nat.reduceSub,Array.replicate_succ,Array.replicate_zero,List.push_toArray,List.append_toArray,List.nil_append,List.cons_append];refine wpIn_seq (wpIn_region ?_);simp[wpOpsIn,go_sem];rw[<-vO];have tN:∀ (fn:Fn) (first cap:Array Value) (w:World),(Instr.makeFunc fn first cap).run Tryz.prog w=.ok (.func fn first cap) w:=fun _ _ _ _=>rfl;refine wpIn_seq (wpIn_region ?_);simp[wpOpsIn,go_sem,tN];refine wpIn_seq (wpIn_region ?_);simp[wpOpsIn,go_sem];refine⟨hF.1 g,?_⟩;rw[(h.BX hp ae.none_).1 (us++bs) w1,Oper.uponIn_enter];refine⟨fun hd=>(by rw[show F.plain.depth=F.depth from rfl,hF.2.1] at hd;cases hd),bH.mono ?_⟩;rintro e w2 ⟨v,g2,rfl,_,mM,rb⟩;simp only;obtain⟨dV,lf⟩:g1.al 0/\g1.ob 0=w.heap.size:=by
   generalize hv:Value.pointer (some ⟨w.heap.size,0,none⟩)=y at F5;cases F5 with
   |pt hk=>simp[jF,ae.none_] at hv;exact⟨hk,hv.symm⟩
  have dP:=rb.al 0 dV;have zu:g2.ob 0=w.heap.size:=(rb.ob 0 dV).trans lf;obtain⟨hc,hz,aA,rZ,tf⟩:=wc (e:=0) mM rfl dP zu;refine wpIn_seq (wpIn_region ?_);simp[wpOpsIn,go_sem,hc,hz];refine wpIn_ret ?_;refine leavesIn_cons (f:=64) (args:=#[.pointer (some ⟨w.heap.size,0,none⟩)]) (by simp) (fun hd=>(by rw[show F.plain.depth=F.depth from rfl,hF.2.1] at hd;cases hd)) (by simp[go_sem]) (fun g hg=>hF.1 g) ?_;refine (Nb hF _ _ _).mono ?_;rintro e u' kR ⟨rfl,rfl,rfl⟩;have CU:(w2.setCell ⟨w.heap.size,0,none⟩ (.int .i64 0)).cell? ⟨w.heap.size,0,none⟩=some (.int .i64 0):=(wc (e:=0) tf rfl dP zu).1;simp[LeavesIn,settle,results,Tryz.results28,go_sem,CU];exact⟨g2,.v,tf,(lq.trans rb).trans rZ⟩
 exact key
theorem SZ {g:FuncId}{fs cs:List AV}{e0:Int}(hp:dK (fs++cs)) (h:sI Tryz.prog w0 g (fs++cs) (nE e0)):ah Tryz.prog w0 28 [.fn (.func g) fs cs] (iv e0):=by
 refine⟨.v,(jF (jF ae.none_ [iv 0]).2 [iv e0]).2.set 0 (some (.arr 1 [[iv e0]] 0 true)),Tryz.call28,fun F m A gh args' w hF hS hA=>?_⟩;obtain⟨bS,Bh⟩:=hA;obtain⟨fv,rfl⟩:∃ fv,args'=#[fv]:=by
  obtain⟨l⟩:=args'
  match l,bS with
  |[x],_=>exact⟨x,rfl⟩
 obtain⟨us,bs,rfl,ia,kN⟩:=vN (Bh 0 _ _ rfl rfl);clear Bh bS;have zt:=wa (w0:=w0) (A:=A) (cs:=[iv 0]) (cells:=#[.int .i64 0]) (ty:=29) hS ⟨rfl,fun i a x h1 h2=>by
  match i,h1,h2 with
  |0,h1,h2=>obtain rfl:=oJ_ h1;obtain rfl:=oJ_ h2;exact .v⟩
 obtain⟨w1,vO⟩:∃ w1:World,w1=w.alloc (.cells #[.int .i64 0] 29):=⟨_,rfl⟩;rw[<-vO] at zt;obtain⟨g1,F5,fJ,lq⟩:=zt;have qh:jc g1 w1 (fs++cs) (us++bs):=by
  have:=il ia kN;exact⟨this.1,fun i a x h1 h2=>(this.2 i a x h1 h2).later lq.toLater⟩
 have bH:=(h.Hv hp (S:=(jF ae.none_ [iv 0]).2) (eY.refl _ _)).2 F.plain (m - 1) A g1 (us++bs) w1 hF.plain fJ qh;have key:CallsIn F.plain m Tryz.prog 28 #[.func (.func g) us bs] w fun e w'=>∃ v g',e=.returned v/\aF g' w' (iv e0) v/\St w0 A g' ((jF (jF ae.none_ [iv 0]).2 [iv e0]).2.set 0 (some (.arr 1 [[iv e0]] 0 true))) w'/\Ext A gh w g' w':=by
  refine callsIn_of_wp_defers Tryz.func28 rfl (hF.1 _) ?_ rfl;simp only[Tryz.ntmps28,List.size_toArray,List.length_cons,List.length_nil,Nat.reduceAdd,Nat.reduceSub,Array.replicate_succ,Array.replicate_zero,List.push_toArray,List.append_toArray,List.nil_append,List.cons_append];refine wpIn_seq (wpIn_region ?_);simp[wpOpsIn,go_sem];rw[<-vO];have tN:∀ (fn:Fn) (first cap:Array Value) (w:World),(Instr.makeFunc fn first cap).run Tryz.prog w=.ok (.func fn first cap) w:=fun _ _ _ _=>rfl;refine wpIn_seq (wpIn_region ?_);simp[wpOpsIn,go_sem,tN];refine wpIn_seq (wpIn_region ?_);simp[wpOpsIn,go_sem];refine⟨hF.1 g,?_⟩;rw[(h.Hv hp (S:=ae.none_) (eY.refl _ _)).1 (us++bs) w1,Oper.uponIn_enter];refine⟨fun hd=>(by rw[show F.plain.depth=F.depth from rfl,hF.2.1] at hd;cases hd),bH.mono ?_⟩;rintro e w2 ⟨g2,rfl,mM,rb⟩;simp only;obtain⟨dV,lf⟩:g1.al 0/\g1.ob 0=w.heap.size:=by
   generalize hv:Value.pointer (some ⟨w.heap.size,0,none⟩)=y at F5;cases F5 with
   |pt hk=>simp[jF,ae.none_] at hv;exact⟨hk,hv.symm⟩
  have dP:=rb.al 0 dV;have zu:g2.ob 0=w.heap.size:=(rb.ob 0 dV).trans lf;obtain⟨hc,hz,aA,_,_⟩:=wc (e:=0) mM rfl dP zu;have ac6:=wa (w0:=w0) (A:=A) (cs:=[iv e0]) (cells:=#[.int .i64 e0]) (ty:=122) mM ⟨rfl,fun i a x h1 h2=>by
   match i,h1,h2 with
   |0,h1,h2=>obtain rfl:=oJ_ h1;obtain rfl:=oJ_ h2;exact .v⟩
  obtain⟨g3,hr3,tf,rZ⟩:=ac6;have F6:=rZ.al 0 dP;have ZE:g3.ob 0=w.heap.size:=(rZ.ob 0 dP).trans zu;obtain⟨CU,hz3,Ex,hE4,hS4⟩:=wc (e:=e0) tf rfl F6 ZE;have hc4:=(wc (e:=e0) hS4 rfl F6 ZE).1;show LeavesIn F.plain m Tryz.prog Tryz.f28 _ _ _ (.panicking (nE e0)) w2;refine leavesIn_cons (f:=64) (args:=#[.pointer (some ⟨w.heap.size,0,none⟩)]) (by simp) (fun hd=>(by rw[show F.plain.depth=F.depth from rfl,hF.2.1] at hd;cases hd)) (by simp[go_sem]) (fun g hg=>hF.1 g) ?_;refine (Nf hF _ _ 0 e0 _ hc hz aA).mono ?_;rintro e u' kR ⟨rfl,rfl,rfl⟩;simp[LeavesIn,settle,results,Tryz.results28,go_sem,hc4];exact⟨g3,.v,hS4,((lq.trans rb).trans rZ).trans hE4⟩
 exact key
theorem S0 {g:FuncId}{fs cs:List AV}{b:Bool}{e0:Int}(hp:dK (fs++cs)) (h:Hc Tryz.prog w0 g (fs++cs) b (.aG []) (nE e0)):ah Tryz.prog w0 28 [.fn (.func g) fs cs] (iv (if b then 0 else e0)):=by
 cases b with
 |true=>exact SY hp (h.1 rfl)
 |false=>exact SZ hp (h.2 rfl)
end
end
end Go.Proofs.YtbpabjmnhggajaaGreat
