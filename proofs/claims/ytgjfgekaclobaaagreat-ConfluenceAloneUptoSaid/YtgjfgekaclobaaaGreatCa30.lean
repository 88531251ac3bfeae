import Derived.Test.YtgjfgekaclobaaaGreatCa28
namespace Go.Proofs.YtgjfgekaclobaaaGreat
set_option linter.unusedVariables false
set_option linter.unusedSimpArgs false
open Go.RowKit
section
set_option maxRecDepth 100000
section
variable {w0:World}{ρ:Hd}
theorem Ko {F:Fence}(hF:gU F) (n:Nat) (p:Addr) (w:World):CallsDIn F.plain n Tryz.prog 200 #[.pointer (some p)] .returning w fun e u' w'=>e=.returned (.tuple #[])/\u'=.returning/\w'=w:=by
 refine callsDIn_of_wpSIn Tryz.func200 rfl (hF.1 _) fun Kp cs hu=>?_
 simp only [Tryz.ntmps200,List.size_toArray,List.length_cons,List.length_nil,Nat.reduceAdd,Nat.reduceSub,Array.replicate_succ,Array.replicate_zero,List.push_toArray,List.append_toArray,List.nil_append,List.cons_append]
 apply wpSIn_seq
 apply wpSIn_region
 simp [wpOpsSIn,go_sem,recoverD,hu,Exit.thenS,hF.1]
 refine wpSIn_of_wpIn rfl ?_
 refine wpIn_block (wpIn_seq (wpIn_region ?_))
 simp [wpOpsIn,go_sem]
 refine wpIn_cond (t:=true) (by simp [Act.eval]) ?_
 simp only [if_true]
 refine wpIn_region ?_
 simp [wpOpsIn,go_sem,bodyPostS,results,Tryz.results200,Exit.inBlock]
 cases Kp
 simp_all
theorem Kq {F:Fence}(hF:gU F) (n:Nat) (b:Nat) (x e0:Int) (w:World) (hc:w.cell? ⟨b,0,none⟩=some (.int .i64 x)) (hz:w.frozen? ⟨b,0,none⟩=false) (hb:b < w.heap.size) :
  CallsDIn F.plain n Tryz.prog 200 #[.pointer (some ⟨b,0,none⟩)] (.panicking (mM e0)) w fun e u' w'=>e=.returned (.tuple #[])/\u'=.panicking [{ v:=Kb e0,recovered:=true }] /\
   w'=(w.alloc (.cells #[.int .i64 e0] 245)).setCell ⟨b,0,none⟩ (.int .i64 e0):=by
 have wM:(w.alloc (.cells #[.int .i64 e0] 245)).heap[b]?=w.heap[b]?:=by
  simp only [World.alloc]
  rw [Array.getElem?_push_lt hb,Array.getElem?_eq_getElem hb]
 have dv:(w.alloc (.cells #[.int .i64 e0] 245)).cell? ⟨b,0,none⟩=some (.int .i64 x):=(World.cell?_of_block wM).trans hc
 have hz2:(w.alloc (.cells #[.int .i64 e0] 245)).frozen? ⟨b,0,none⟩=false:=by
  rw [<-hz];simp only [World.frozen?,wM]
 refine callsDIn_of_wpSIn Tryz.func200 rfl (hF.1 _) fun Kp cs hu=>?_
 simp only [Tryz.ntmps200,List.size_toArray,List.length_cons,List.length_nil,Nat.reduceAdd,Nat.reduceSub,Array.replicate_succ,Array.replicate_zero,List.push_toArray,List.append_toArray,List.nil_append,List.cons_append]
 apply wpSIn_seq
 apply wpSIn_region
 simp [wpOpsSIn,go_sem,recoverD,hu,Exit.thenS,hF.1,mM]
 refine wpSIn_of_wpIn rfl ?_
 refine wpIn_block (wpIn_seq (wpIn_region ?_))
 simp [wpOpsIn,go_sem,Kb]
 refine wpIn_cond (t:=false) (by simp [Act.eval]) ?_
 simp only [Bool.false_eq_true,if_false]
 refine wpIn_seq (wpIn_region ?_)
 have gL:∀ w,(underlying 245).run Tryz.prog w=.ok (.struct (Tryz.prog.fieldsOf 245)) w:=fun w=>by
  have h:Tryz.prog.underlying 245=some (.struct (Tryz.prog.fieldsOf 245)):=by kernel_rfl
  simp [underlying,h]
 have hta:∀ w,(Instr.typeAssert (.iface 245 (.agg #[.int .i64 e0])) 20 245 true).run Tryz.prog w=.ok (.tuple #[.agg #[.int .i64 e0],.bool true]) w:=fun w=>by simp [Instr.typeAssert,gL]
 simp [wpOpsIn,go_sem,hta]
 refine wpIn_cond (t:=true) (by simp [Act.eval]) ?_
 simp only [if_true]
 refine wpIn_seq (wpIn_region ?_)
 simp [wpOpsIn,go_sem]
 refine wpIn_region ?_
 simp [wpOpsIn,go_sem,dv,hz2]
 simp [bodyPostS,results,Tryz.results200,Exit.inBlock]
def aaq (a e:Int):ad:=(jh ad.none_ [iv a]).2.set 0 (some (.arr 1 [[iv e]] 0 true))
theorem ur {A:Nat->Prop}{g2:Gh}{S:ad}{w2:World}{a e:Int}{b:Nat}(ld:St w0 A g2 S w2) (h0:S.get 0=some (.arr 1 [[iv a]] 0 true)) (hk:g2.al 0) (iI:g2.ob 0=b) :
  w2.cell? ⟨b,0,none⟩=some (.int .i64 a)/\w2.frozen? ⟨b,0,none⟩=false/\b < w2.heap.size/\Ext A g2 w2 g2 (w2.setCell ⟨b,0,none⟩ (.int .i64 e))/\St w0 A g2 (S.set 0 (some (.arr 1 [[iv e]] 0 true))) (w2.setCell ⟨b,0,none⟩ (.int .i64 e)):=by
 obtain⟨k2,k3,cells,ty,p1,p2,p3,p4,p5,p6,p7⟩:=ld.bR 0 _ h0 hk
 rw [iI] at k2 k3 p1
 obtain⟨x,iM,cg⟩:=(p5 0 _ rfl).2 0 _ rfl
 have cg:=bO cg
 subst cg
 have hc:w2.cell? ⟨b,0,none⟩=some (.int .i64 a):=by rw [cell_of_row w2 b _ cells ty (0,0) p1];simpa using iM
 have hz:w2.frozen? ⟨b,0,none⟩=false:=by simp [World.frozen?,p1]
 have lr:lu Tryz.prog S 45 (iv e) (.pt 0 1 0 0)=some (S.set 0 (some (.arr 1 [[iv e]] 0 true))):=by
  have:cP Tryz.prog 45=some 1:=by kernel_rfl
  simp only [lu,h0,this]
  rfl
 have oG:aH g2 w2 (.pt 0 1 0 0) (.pointer (some ⟨b,0,none⟩)):=by
  have:=aH.pt (g:=g2) (w:=w2) (k:=0) (sz:=1) (i:=0) (j:=0) hk
  rw [iI] at this
  exact this
 obtain⟨c,o,w',e1,e2,_,e4,e5⟩:=rQ ld lr oG (x:=.int .i64 e) .v
 simp only [Value.pointer.injEq,oI_,Addr.mk.injEq,and_true] at e1
 obtain⟨rfl,rfl⟩:=e1
 have bY:(storeVar 45 ⟨b,0,none⟩ (.int .i64 e)).run Tryz.prog w2=.ok () (w2.setCell ⟨b,0,none⟩ (.int .i64 e)):=by simp [go_sem,hc,hz]
 rw [bY] at e2
 injection e2 with _ e2
 subst e2
 exact⟨hc,hz,k3,e4,e5⟩
theorem Rx {g:FuncId}{fs cs:List AV}(hp:dm (fs++cs)) (h:ah Tryz.prog w0 g (fs++cs) (.aE [])):ah Tryz.prog w0 131 [.fn (.func g) fs cs] (iv 0):=by
 refine⟨.v,aaq 0 0,Tryz.call131,fun F m A gh aQ w hF hS hA=>?_⟩
 obtain⟨bh,zl⟩:=hA
 obtain⟨fv,rfl⟩:∃ fv,aQ=#[fv]:=by
  obtain⟨l⟩:=aQ
  match l,bh with
  |[x],_=>exact⟨x,rfl⟩
 obtain⟨us,bs,rfl,iK,kD⟩:=tS (zl 0 _ _ rfl rfl)
 clear zl bh
 have xC:=uo (w0:=w0) (A:=A) (cs:=[iv 0]) (cells:=#[.int .i64 0]) (ty:=45) hS ⟨rfl,fun i a x h1 h2=>by
  match i,h1,h2 with
  |0,h1,h2=>obtain rfl:=oJ_ h1;obtain rfl:=oJ_ h2;exact .v⟩
 obtain⟨w1,sI⟩:∃ w1:World,w1=w.alloc (.cells #[.int .i64 0] 45):=⟨_,rfl⟩
 rw [<-sI] at xC
 obtain⟨g1,D7,eT,ko⟩:=xC
 have oW:iP g1 w1 (fs++cs) (us++bs):=by
  have:=gM iK kD
  exact⟨this.1,fun i a x h1 h2=>(this.2 i a x h1 h2).later ko.toLater⟩
 have bC:=(h.zW hp (jh ad.none_ [iv 0]).2).2 F.plain (m - 1) A g1 (us++bs) w1 hF.plain eT oW
 have key:CallsIn F.plain m Tryz.prog 131 #[.func (.func g) us bs] w fun e w'=>∃ v g',e=.returned v/\aH g' w' (iv 0) v/\St w0 A g' (aaq 0 0) w'/\Ext A gh w g' w':=by
  refine callsIn_of_wp_defers Tryz.func131 rfl (hF.1 _) ?_ rfl
  simp only [Tryz.ntmps131,List.size_toArray,List.length_cons,List.length_nil,Nat.reduceAdd,Nat.reduceSub,Array.replicate_succ,Array.replicate_zero,List.push_toArray,List.append_toArray,List.nil_append,List.cons_append]
  refine wpIn_seq (wpIn_region ?_)
  simp [wpOpsIn,go_sem]
  rw [<-sI]
  have pP:∀ (fn:Fn) (first cap:Array Value) (w:World),(Instr.makeFunc fn first cap).run Tryz.prog w=.ok (.func fn first cap) w:=fun _ _ _ _=>rfl
  refine wpIn_seq (wpIn_region ?_)
  simp [wpOpsIn,go_sem,pP]
  refine wpIn_seq (wpIn_region ?_)
  simp [wpOpsIn,go_sem]
  refine⟨hF.1 g,?_⟩
  rw [(h.zW hp ad.none_).1 (us++bs) w1,Oper.uponIn_enter]
  refine⟨fun hd=>(by rw [show F.plain.depth=F.depth from rfl,hF.2.1] at hd;cases hd),bC.mono ?_⟩
  rintro e w2 ⟨v,g2,rfl,_,ld,pQ⟩
  simp only
  obtain⟨dN,jO⟩:g1.al 0/\g1.ob 0=w.heap.size:=by
   generalize hv:Value.pointer (some ⟨w.heap.size,0,none⟩)=y at D7
   cases D7 with
   |pt hk=>simp [jh,ad.none_] at hv;exact⟨hk,hv.symm⟩
  have eh:=pQ.al 0 dN
  have xD:g2.ob 0=w.heap.size:=(pQ.ob 0 dN).trans jO
  obtain⟨hc,hz,aA,qx,qw⟩:=ur (e:=0) ld rfl eh xD
  refine wpIn_seq (wpIn_region ?_)
  simp [wpOpsIn,go_sem,hc,hz]
  refine wpIn_ret ?_
  refine leavesIn_cons (f:=200) (args:=#[.pointer (some ⟨w.heap.size,0,none⟩)]) (by simp) (fun hd=>(by rw [show F.plain.depth=F.depth from rfl,hF.2.1] at hd;cases hd)) (by simp [go_sem]) (fun g hg=>hF.1 g) ?_
  refine (Ko hF _ _ _).mono ?_
  rintro e u' jX ⟨rfl,rfl,rfl⟩
  have Bb:(w2.setCell ⟨w.heap.size,0,none⟩ (.int .i64 0)).cell? ⟨w.heap.size,0,none⟩=some (.int .i64 0):=(ur (e:=0) qw rfl eh xD).1
  simp [LeavesIn,settle,results,Tryz.results131,go_sem,Bb]
  exact⟨g2,.v,qw,(ko.trans pQ).trans qx⟩
 exact key
theorem Ry {g:FuncId}{fs cs:List AV}{e0:Int}(hp:dm (fs++cs)) (h:qO Tryz.prog w0 g (fs++cs) (mM e0)):ah Tryz.prog w0 131 [.fn (.func g) fs cs] (iv e0):=by
 refine⟨.v,(jh (jh ad.none_ [iv 0]).2 [iv e0]).2.set 0 (some (.arr 1 [[iv e0]] 0 true)),Tryz.call131,fun F m A gh aQ w hF hS hA=>?_⟩
 obtain⟨bh,zl⟩:=hA
 obtain⟨fv,rfl⟩:∃ fv,aQ=#[fv]:=by
  obtain⟨l⟩:=aQ
  match l,bh with
  |[x],_=>exact⟨x,rfl⟩
 obtain⟨us,bs,rfl,iK,kD⟩:=tS (zl 0 _ _ rfl rfl)
 clear zl bh
 have xC:=uo (w0:=w0) (A:=A) (cs:=[iv 0]) (cells:=#[.int .i64 0]) (ty:=45) hS ⟨rfl,fun i a x h1 h2=>by
  match i,h1,h2 with
  |0,h1,h2=>obtain rfl:=oJ_ h1;obtain rfl:=oJ_ h2;exact .v⟩
 obtain⟨w1,sI⟩:∃ w1:World,w1=w.alloc (.cells #[.int .i64 0] 45):=⟨_,rfl⟩
 rw [<-sI] at xC
 obtain⟨g1,D7,eT,ko⟩:=xC
 have oW:iP g1 w1 (fs++cs) (us++bs):=by
  have:=gM iK kD
  exact⟨this.1,fun i a x h1 h2=>(this.2 i a x h1 h2).later ko.toLater⟩
 have bC:=(h.Ff hp (S:=(jh ad.none_ [iv 0]).2) (fH.refl _ _)).2 F.plain (m - 1) A g1 (us++bs) w1 hF.plain eT oW
 have key:CallsIn F.plain m Tryz.prog 131 #[.func (.func g) us bs] w fun e w'=>∃ v g',e=.returned v/\aH g' w' (iv e0) v/\St w0 A g' ((jh (jh ad.none_ [iv 0]).2 [iv e0]).2.set 0 (some (.arr 1 [[iv e0]] 0 true))) w'/\Ext A gh w g' w':=by
  refine callsIn_of_wp_defers Tryz.func131 rfl (hF.1 _) ?_ rfl
  simp only [Tryz.ntmps131,List.size_toArray,List.length_cons,List.length_nil,Nat.reduceAdd,Nat.reduceSub,Array.replicate_succ,Array.replicate_zero,List.push_toArray,List.append_toArray,List.nil_append,List.cons_append]
  refine wpIn_seq (wpIn_region ?_)
  simp [wpOpsIn,go_sem]
  rw [<-sI]
  have pP:∀ (fn:Fn) (first cap:Array Value) (w:World),(Instr.makeFunc fn first cap).run Tryz.prog w=.ok (.func fn first cap) w:=fun _ _ _ _=>rfl
  refine wpIn_seq (wpIn_region ?_)
  simp [wpOpsIn,go_sem,pP]
  refine wpIn_seq (wpIn_region ?_)
  simp [wpOpsIn,go_sem]
  refine⟨hF.1 g,?_⟩
  rw [(h.Ff hp (S:=ad.none_) (fH.refl _ _)).1 (us++bs) w1,Oper.uponIn_enter]
  refine⟨fun hd=>(by rw [show F.plain.depth=F.depth from rfl,hF.2.1] at hd;cases hd),bC.mono ?_⟩
  rintro e w2 ⟨g2,rfl,ld,pQ⟩
  simp only
  obtain⟨dN,jO⟩:g1.al 0/\g1.ob 0=w.heap.size:=by
   generalize hv:Value.pointer (some ⟨w.heap.size,0,none⟩)=y at D7
   cases D7 with
   |pt hk=>simp [jh,ad.none_] at hv;exact⟨hk,hv.symm⟩
  have eh:=pQ.al 0 dN
  have xD:g2.ob 0=w.heap.size:=(pQ.ob 0 dN).trans jO
  obtain⟨hc,hz,aA,_,_⟩:=ur (e:=0) ld rfl eh xD
  have adU:=uo (w0:=w0) (A:=A) (cs:=[iv e0]) (cells:=#[.int .i64 e0]) (ty:=245) ld ⟨rfl,fun i a x h1 h2=>by
   match i,h1,h2 with
   |0,h1,h2=>obtain rfl:=oJ_ h1;obtain rfl:=oJ_ h2;exact .v⟩
  obtain⟨g3,hr3,qw,qx⟩:=adU
  have OX:=qx.al 0 eh
  have aar:g3.ob 0=w.heap.size:=(qx.ob 0 eh).trans xD
  obtain⟨Bb,hz3,wO,hE4,hS4⟩:=ur (e:=e0) qw rfl OX aar
  have hc4:=(ur (e:=e0) hS4 rfl OX aar).1
  show LeavesIn F.plain m Tryz.prog Tryz.f131 _ _ _ (.panicking (mM e0)) w2
  refine leavesIn_cons (f:=200) (args:=#[.pointer (some ⟨w.heap.size,0,none⟩)]) (by simp) (fun hd=>(by rw [show F.plain.depth=F.depth from rfl,hF.2.1] at hd;cases hd)) (by simp [go_sem]) (fun g hg=>hF.1 g) ?_
  refine (Kq hF _ _ 0 e0 _ hc hz aA).mono ?_
  rintro e u' jX ⟨rfl,rfl,rfl⟩
  simp [LeavesIn,settle,results,Tryz.results131,go_sem,hc4]
  exact⟨g3,.v,hS4,((ko.trans pQ).trans qx).trans hE4⟩
 exact key
theorem Rz {g:FuncId}{fs cs:List AV}{b:Bool}{e0:Int}(hp:dm (fs++cs)) (h:EU Tryz.prog w0 g (fs++cs) b (.aE []) (mM e0)):ah Tryz.prog w0 131 [.fn (.func g) fs cs] (iv (if b then 0 else e0)):=by
 cases b with
 |true=>exact Rx hp (h.1 rfl)
 |false=>exact Ry hp (h.2 rfl)
end
end
end Go.Proofs.YtgjfgekaclobaaaGreat
