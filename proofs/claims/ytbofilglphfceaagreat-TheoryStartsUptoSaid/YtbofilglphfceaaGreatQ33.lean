import Derived.Test.YtbofilglphfceaaGreatQ31
namespace Go.Proofs.YtbofilglphfceaaGreat
set_option linter.unusedVariables false
set_option linter.unusedSimpArgs false
open Go.RowKit
section
set_option maxRecDepth 100000
section
variable {w0:World}{ρ:Hd}
theorem Gx {F:Fence}(hF:g7 F) (n:Nat) (p:Addr) (w:World):CallsDIn F.plain n Tryz.prog 182 #[.pointer (some p)] .returning w fun e u' w'=>e=.returned (.tuple #[])/\u'=.returning/\w'=w:=by
 refine callsDIn_of_wpSIn Tryz.func182 rfl (hF.1 _) fun Gy cs hu=>?_
 simp only [Tryz.ntmps182,List.size_toArray,List.length_cons,List.length_nil,Nat.reduceAdd,Nat.reduceSub,Array.replicate_succ,Array.replicate_zero,List.push_toArray,List.append_toArray,List.nil_append,List.cons_append]
 apply wpSIn_seq
 apply wpSIn_region
 simp [wpOpsSIn,go_sem,recoverD,hu,Exit.thenS,hF.1]
 refine wpSIn_of_wpIn rfl ?_
 refine wpIn_block (wpIn_seq (wpIn_region ?_))
 simp [wpOpsIn,go_sem]
 refine wpIn_cond (t:=true) (by simp [Act.eval]) ?_
 simp only [if_true]
 refine wpIn_region ?_
 simp [wpOpsIn,go_sem,bodyPostS,results,Tryz.results182,Exit.inBlock]
 cases Gy
 simp_all
theorem Gz {F:Fence}(hF:g7 F) (n:Nat) (b:Nat) (x e0:Int) (w:World) (hc:w.cell? ⟨b,0,none⟩=some (.int .i64 x)) (hz:w.frozen? ⟨b,0,none⟩=false) (hb:b < w.heap.size) :
  CallsDIn F.plain n Tryz.prog 182 #[.pointer (some ⟨b,0,none⟩)] (.panicking (lr e0)) w fun e u' w'=>e=.returned (.tuple #[])/\u'=.panicking [{ v:=Gr e0,recovered:=true }] /\
   w'=(w.alloc (.cells #[.int .i64 e0] 221)).setCell ⟨b,0,none⟩ (.int .i64 e0):=by
 have zi:(w.alloc (.cells #[.int .i64 e0] 221)).heap[b]?=w.heap[b]?:=by
  simp only [World.alloc]
  rw [Array.getElem?_push_lt hb,Array.getElem?_eq_getElem hb]
 have ga:(w.alloc (.cells #[.int .i64 e0] 221)).cell? ⟨b,0,none⟩=some (.int .i64 x):=(World.cell?_of_block zi).trans hc
 have Tb:(w.alloc (.cells #[.int .i64 e0] 221)).frozen? ⟨b,0,none⟩=false:=by
  rw [<-hz];simp only [World.frozen?,zi]
 refine callsDIn_of_wpSIn Tryz.func182 rfl (hF.1 _) fun Gy cs hu=>?_
 simp only [Tryz.ntmps182,List.size_toArray,List.length_cons,List.length_nil,Nat.reduceAdd,Nat.reduceSub,Array.replicate_succ,Array.replicate_zero,List.push_toArray,List.append_toArray,List.nil_append,List.cons_append]
 apply wpSIn_seq
 apply wpSIn_region
 simp [wpOpsSIn,go_sem,recoverD,hu,Exit.thenS,hF.1,lr]
 refine wpSIn_of_wpIn rfl ?_
 refine wpIn_block (wpIn_seq (wpIn_region ?_))
 simp [wpOpsIn,go_sem,Gr]
 refine wpIn_cond (t:=false) (by simp [Act.eval]) ?_
 simp only [Bool.false_eq_true,if_false]
 refine wpIn_seq (wpIn_region ?_)
 have hu1:∀ w,(underlying 221).run Tryz.prog w=.ok (.struct (Tryz.prog.fieldsOf 221)) w:=fun w=>by
  have h:Tryz.prog.underlying 221=some (.struct (Tryz.prog.fieldsOf 221)):=by kernel_rfl
  simp [underlying,h]
 have hta:∀ w,(Instr.typeAssert (.iface 221 (.agg #[.int .i64 e0])) 20 221 true).run Tryz.prog w=.ok (.tuple #[.agg #[.int .i64 e0],.bool true]) w:=fun w=>by simp [Instr.typeAssert,hu1]
 simp [wpOpsIn,go_sem,hta]
 refine wpIn_cond (t:=true) (by simp [Act.eval]) ?_
 simp only [if_true]
 refine wpIn_seq (wpIn_region ?_)
 simp [wpOpsIn,go_sem]
 refine wpIn_region ?_
 simp [wpOpsIn,go_sem,ga,Tb]
 simp [bodyPostS,results,Tryz.results182,Exit.inBlock]
def Ut (a e:Int):ae:=(ib ae.none_ [iv a]).2.set 0 (some (.arr 1 [[iv e]] 0 true))
theorem sC {A:Nat->Prop}{g2:Gh}{S:ae}{w2:World}{a e:Int}{b:Nat}(lA:St w0 A g2 S w2) (h0:S.get 0=some (.arr 1 [[iv a]] 0 true)) (hk:g2.al 0) (gB:g2.ob 0=b) :
  w2.cell? ⟨b,0,none⟩=some (.int .i64 a)/\w2.frozen? ⟨b,0,none⟩=false/\b < w2.heap.size/\Ext A g2 w2 g2 (w2.setCell ⟨b,0,none⟩ (.int .i64 e))/\St w0 A g2 (S.set 0 (some (.arr 1 [[iv e]] 0 true))) (w2.setCell ⟨b,0,none⟩ (.int .i64 e)):=by
 obtain⟨k2,k3,cells,ty,p1,p2,p3,p4,p5,p6,p7⟩:=lA.cC 0 _ h0 hk
 rw [gB] at k2 k3 p1
 obtain⟨x,gT,aO⟩:=(p5 0 _ rfl).2 0 _ rfl
 have aO:=ca aO
 subst aO
 have hc:w2.cell? ⟨b,0,none⟩=some (.int .i64 a):=by rw [cell_of_row w2 b _ cells ty (0,0) p1];simpa using gT
 have hz:w2.frozen? ⟨b,0,none⟩=false:=by simp [World.frozen?,p1]
 have jf:kI Tryz.prog S 57 (iv e) (.pt 0 1 0 0)=some (S.set 0 (some (.arr 1 [[iv e]] 0 true))):=by
  have:cQ Tryz.prog 57=some 1:=by kernel_rfl
  simp only [kI,h0,this]
  rfl
 have Uu:aJ g2 w2 (.pt 0 1 0 0) (.pointer (some ⟨b,0,none⟩)):=by
  have:=aJ.pt (g:=g2) (w:=w2) (k:=0) (sz:=1) (i:=0) (j:=0) hk
  rw [gB] at this
  exact this
 obtain⟨c,o,w',e1,e2,_,e4,e5⟩:=qd lA jf Uu (x:=.int .i64 e) .v
 simp only [Value.pointer.injEq,Option.some.injEq,Addr.mk.injEq,and_true] at e1
 obtain⟨rfl,rfl⟩:=e1
 have cr:(storeVar 57 ⟨b,0,none⟩ (.int .i64 e)).run Tryz.prog w2=.ok () (w2.setCell ⟨b,0,none⟩ (.int .i64 e)):=by simp [go_sem,hc,hz]
 rw [cr] at e2
 injection e2 with _ e2
 subst e2
 exact⟨hc,hz,k3,e4,e5⟩
theorem L6 {g:FuncId}{fs cs:List AV}(hp:db (fs++cs)) (h:ah Tryz.prog w0 g (fs++cs) (.bg [])):ah Tryz.prog w0 100 [.fn (.func g) fs cs] (iv 0):=by
 refine⟨.v,Ut 0 0,Tryz.call100,fun F m A gh bL w hF hS hA=>?_⟩
 obtain⟨bH,wy⟩:=hA
 obtain⟨fv,rfl⟩:∃ fv,bL=#[fv]:=by
  obtain⟨l⟩:=bL
  match l,bH with
  |[x],_=>exact⟨x,rfl⟩
 obtain⟨us,bs,rfl,cX,ey⟩:=ub (wy 0 _ _ rfl rfl)
 clear wy bH
 have uS:=sA (w0:=w0) (A:=A) (cs:=[iv 0]) (cells:=#[.int .i64 0]) (ty:=57) hS ⟨rfl,fun i a x h1 h2=>by
  match i,h1,h2 with
  |0,h1,h2=>obtain rfl:=Option.some.inj h1;obtain rfl:=Option.some.inj h2;exact .v⟩
 obtain⟨w1,qS⟩:∃ w1:World,w1=w.alloc (.cells #[.int .i64 0] 57):=⟨_,rfl⟩
 rw [<-qS] at uS
 obtain⟨g1,AJ,eV,j4⟩:=uS
 have JX:jm g1 w1 (fs++cs) (us++bs):=by
  have:=fF cX ey
  exact⟨this.1,fun i a x h1 h2=>(this.2 i a x h1 h2).later j4.toLater⟩
 have bI:=(h.zQ hp (ib ae.none_ [iv 0]).2).2 F.plain (m - 1) A g1 (us++bs) w1 hF.plain eV JX
 have key:CallsIn F.plain m Tryz.prog 100 #[.func (.func g) us bs] w fun e w'=>∃ v g',e=.returned v/\aJ g' w' (iv 0) v/\St w0 A g' (Ut 0 0) w'/\Ext A gh w g' w':=by
  refine callsIn_of_wp_defers Tryz.func100 rfl (hF.1 _) ?_ rfl
  simp only [Tryz.ntmps100,List.size_toArray,List.length_cons,List.length_nil,Nat.reduceAdd,Nat.reduceSub,Array.replicate_succ,Array.replicate_zero,List.push_toArray,List.append_toArray,List.nil_append,List.cons_append]
  refine wpIn_seq (wpIn_region ?_)
  simp [wpOpsIn,go_sem]
  rw [<-qS]
  have JY:∀ (fn:Fn) (first cap:Array Value) (w:World),(Instr.makeFunc fn first cap).run Tryz.prog w=.ok (.func fn first cap) w:=fun _ _ _ _=>rfl
  refine wpIn_seq (wpIn_region ?_)
  simp [wpOpsIn,go_sem,JY]
  refine wpIn_seq (wpIn_region ?_)
  simp [wpOpsIn,go_sem]
  refine⟨hF.1 g,?_⟩
  rw [(h.zQ hp ae.none_).1 (us++bs) w1,Oper.uponIn_enter]
  refine⟨fun hd=>(by rw [show F.plain.depth=F.depth from rfl,hF.2.1] at hd;cases hd),bI.mono ?_⟩
  rintro e w2 ⟨v,g2,rfl,_,lA,qw⟩
  simp only
  obtain⟨iV,iZ⟩:g1.al 0/\g1.ob 0=w.heap.size:=by
   generalize hv:Value.pointer (some ⟨w.heap.size,0,none⟩)=y at AJ
   cases AJ with
   |pt hk=>simp [ib,ae.none_] at hv;exact⟨hk,hv.symm⟩
  have dS:=qw.al 0 iV
  have uT:g2.ob 0=w.heap.size:=(qw.ob 0 iV).trans iZ
  obtain⟨hc,hz,au,o3,oZ⟩:=sC (e:=0) lA rfl dS uT
  refine wpIn_seq (wpIn_region ?_)
  simp [wpOpsIn,go_sem,hc,hz]
  refine wpIn_ret ?_
  refine leavesIn_cons (f:=182) (args:=#[.pointer (some ⟨w.heap.size,0,none⟩)]) (by simp) (fun hd=>(by rw [show F.plain.depth=F.depth from rfl,hF.2.1] at hd;cases hd)) (by simp [go_sem]) (fun g hg=>hF.1 g) ?_
  refine (Gx hF _ _ _).mono ?_
  rintro e u' qz ⟨rfl,rfl,rfl⟩
  have xM:(w2.setCell ⟨w.heap.size,0,none⟩ (.int .i64 0)).cell? ⟨w.heap.size,0,none⟩=some (.int .i64 0):=(sC (e:=0) oZ rfl dS uT).1
  simp [LeavesIn,settle,results,Tryz.results100,go_sem,xM]
  exact⟨g2,.v,oZ,(j4.trans qw).trans o3⟩
 exact key
theorem L7 {g:FuncId}{fs cs:List AV}{e0:Int}(hp:db (fs++cs)) (h:pe Tryz.prog w0 g (fs++cs) (lr e0)):ah Tryz.prog w0 100 [.fn (.func g) fs cs] (iv e0):=by
 refine⟨.v,(ib (ib ae.none_ [iv 0]).2 [iv e0]).2.set 0 (some (.arr 1 [[iv e0]] 0 true)),Tryz.call100,fun F m A gh bL w hF hS hA=>?_⟩
 obtain⟨bH,wy⟩:=hA
 obtain⟨fv,rfl⟩:∃ fv,bL=#[fv]:=by
  obtain⟨l⟩:=bL
  match l,bH with
  |[x],_=>exact⟨x,rfl⟩
 obtain⟨us,bs,rfl,cX,ey⟩:=ub (wy 0 _ _ rfl rfl)
 clear wy bH
 have uS:=sA (w0:=w0) (A:=A) (cs:=[iv 0]) (cells:=#[.int .i64 0]) (ty:=57) hS ⟨rfl,fun i a x h1 h2=>by
  match i,h1,h2 with
  |0,h1,h2=>obtain rfl:=Option.some.inj h1;obtain rfl:=Option.some.inj h2;exact .v⟩
 obtain⟨w1,qS⟩:∃ w1:World,w1=w.alloc (.cells #[.int .i64 0] 57):=⟨_,rfl⟩
 rw [<-qS] at uS
 obtain⟨g1,AJ,eV,j4⟩:=uS
 have JX:jm g1 w1 (fs++cs) (us++bs):=by
  have:=fF cX ey
  exact⟨this.1,fun i a x h1 h2=>(this.2 i a x h1 h2).later j4.toLater⟩
 have bI:=(h.B6 hp (S:=(ib ae.none_ [iv 0]).2) (ff.refl _ _)).2 F.plain (m - 1) A g1 (us++bs) w1 hF.plain eV JX
 have key:CallsIn F.plain m Tryz.prog 100 #[.func (.func g) us bs] w fun e w'=>∃ v g',e=.returned v/\aJ g' w' (iv e0) v/\St w0 A g' ((ib (ib ae.none_ [iv 0]).2 [iv e0]).2.set 0 (some (.arr 1 [[iv e0]] 0 true))) w'/\Ext A gh w g' w':=by
  refine callsIn_of_wp_defers Tryz.func100 rfl (hF.1 _) ?_ rfl
  simp only [Tryz.ntmps100,List.size_toArray,List.length_cons,List.length_nil,Nat.reduceAdd,Nat.reduceSub,Array.replicate_succ,Array.replicate_zero,List.push_toArray,List.append_toArray,List.nil_append,List.cons_append]
  refine wpIn_seq (wpIn_region ?_)
  simp [wpOpsIn,go_sem]
  rw [<-qS]
  have JY:∀ (fn:Fn) (first cap:Array Value) (w:World),(Instr.makeFunc fn first cap).run Tryz.prog w=.ok (.func fn first cap) w:=fun _ _ _ _=>rfl
  refine wpIn_seq (wpIn_region ?_)
  simp [wpOpsIn,go_sem,JY]
  refine wpIn_seq (wpIn_region ?_)
  simp [wpOpsIn,go_sem]
  refine⟨hF.1 g,?_⟩
  rw [(h.B6 hp (S:=ae.none_) (ff.refl _ _)).1 (us++bs) w1,Oper.uponIn_enter]
  refine⟨fun hd=>(by rw [show F.plain.depth=F.depth from rfl,hF.2.1] at hd;cases hd),bI.mono ?_⟩
  rintro e w2 ⟨g2,rfl,lA,qw⟩
  simp only
  obtain⟨iV,iZ⟩:g1.al 0/\g1.ob 0=w.heap.size:=by
   generalize hv:Value.pointer (some ⟨w.heap.size,0,none⟩)=y at AJ
   cases AJ with
   |pt hk=>simp [ib,ae.none_] at hv;exact⟨hk,hv.symm⟩
  have dS:=qw.al 0 iV
  have uT:g2.ob 0=w.heap.size:=(qw.ob 0 iV).trans iZ
  obtain⟨hc,hz,au,_,_⟩:=sC (e:=0) lA rfl dS uT
  have Ym:=sA (w0:=w0) (A:=A) (cs:=[iv e0]) (cells:=#[.int .i64 e0]) (ty:=221) lA ⟨rfl,fun i a x h1 h2=>by
   match i,h1,h2 with
   |0,h1,h2=>obtain rfl:=Option.some.inj h1;obtain rfl:=Option.some.inj h2;exact .v⟩
  obtain⟨g3,hr3,oZ,o3⟩:=Ym
  have yz:=o3.al 0 dS
  have Uv:g3.ob 0=w.heap.size:=(o3.ob 0 dS).trans uT
  obtain⟨xM,hz3,kf,hE4,hS4⟩:=sC (e:=e0) oZ rfl yz Uv
  have hc4:=(sC (e:=e0) hS4 rfl yz Uv).1
  show LeavesIn F.plain m Tryz.prog Tryz.f100 _ _ _ (.panicking (lr e0)) w2
  refine leavesIn_cons (f:=182) (args:=#[.pointer (some ⟨w.heap.size,0,none⟩)]) (by simp) (fun hd=>(by rw [show F.plain.depth=F.depth from rfl,hF.2.1] at hd;cases hd)) (by simp [go_sem]) (fun g hg=>hF.1 g) ?_
  refine (Gz hF _ _ 0 e0 _ hc hz au).mono ?_
  rintro e u' qz ⟨rfl,rfl,rfl⟩
  simp [LeavesIn,settle,results,Tryz.results100,go_sem,hc4]
  exact⟨g3,.v,hS4,((j4.trans qw).trans o3).trans hE4⟩
 exact key
theorem L8 {g:FuncId}{fs cs:List AV}{b:Bool}{e0:Int}(hp:db (fs++cs)) (h:Bm Tryz.prog w0 g (fs++cs) b (.bg []) (lr e0)):ah Tryz.prog w0 100 [.fn (.func g) fs cs] (iv (if b then 0 else e0)):=by
 cases b with
 |true=>exact L6 hp (h.1 rfl)
 |false=>exact L7 hp (h.2 rfl)
end
end
end Go.Proofs.YtbofilglphfceaaGreat
