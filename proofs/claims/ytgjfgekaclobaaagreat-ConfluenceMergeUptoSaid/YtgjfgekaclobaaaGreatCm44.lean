import Derived.Carry
import Derived.Deep.DeepHandedRow
import Derived.Lib.LaidTab
import Derived.OpenShut
import Derived.ProofKit
import Derived.RecoverIn
import Derived.TacticsIn
import Derived.TacticsInMore
import Derived.Test.YtgjfgekaclobaaaGreatProg
import Derived.Test.YtgjfgekaclobaaaGreatRows
import Derived.Test.YtgjfgekaclobaaaGreatCm43
namespace Go.Proofs.YtgjfgekaclobaaaGreat
set_option linter.unusedVariables false
set_option linter.unusedSimpArgs false
open Go.RowKit
section
open Go.ChangeShapes Go.WideShapes Go.ChangeAt Go.RowKit
section
variable {H:Type}{enc:TypeId × Value->H}{P:Program}
theorem sy (hl:laidOutB P=true) {W W':World}(hb:Below W.heap.size W W'):∀ {ts:List TypeId}{vs:List Value}{ds:List (DataW H)}{ps:List MemPlace},
  (∀ t ∈ ts,P.readableRec t=true/\t < P.types.size)->DataW.TrodAll enc P W 0 (fun _=>true) true ts vs ds ps->(∀ x ∈ ps,x.block < W.heap.size) ->
  DataW.TrodAll enc P W' 0 (fun b=>decide (b < W.heap.size)) true ts vs ds ps
 |[],vs,ds,ps,_,h,_=>by
  obtain⟨rfl,rfl,rfl⟩:=trodAll_nil h
  exact trodAll_mk0
 |t::ts,vs,ds,ps,ht,h,aB=>by
  obtain⟨v,vs',d,ds',p,q,rfl,rfl,rfl,h1,h2⟩:=trodAll_cons h
  obtain⟨hr,hs⟩:=ht t (by simp)
  exact trodAll_cons_mk (Below.trod hl hr hs h1 hb fun x hx=>aB x (by simp [hx])) (sy hl hb (fun t SN=>ht t (by simp [SN])) h2 fun x hx=>aB x (by simp [hx]))
theorem Ma {f:Func}{s:ChangeSpec}{W W':World}{args:Array Value}{ds:List (DataW H)}{before:List MemPlace}{tb:TypeId}
  (hl:laidOutB P=true) (EE:∀ t ∈ f.params.toList,P.readableRec t=true/\t < P.types.size) (OB:s.vars=[]) (ga:f.resultTypes=#[tb]) (NN:P.underlying tb=some .bool)
  (tf:s.fn H (ds++[])={ results:=[.lit (.bool true)],args:=ds }) (hW:DataW.Whole enc P f.params.toList s.vars false W args.toList ds [] before) (hb:Below W.heap.size W W') :
  s.post enc P f false true false false W args (.bool true) W':=by
 have ZN:=hW
 obtain⟨p,q,hA,hV,rfl,nY,vK⟩:=hW
 rw [OB] at hV
 obtain⟨_,rfl⟩:=trodVars_none hV
 have aB:∀ x ∈ p,x.block < W.heap.size:=fun x hx=>ZN.lt x (by simp [hx])
 refine⟨ds,[],p++[],[],p,[],ZN,?_,?_,?_,World.keptBut_mono (fun x hx=>⟨hx,.inr (.inl (by simpa using hx))⟩) (hb.frame (· ∈ p++[])),fun h=>by cases h⟩
 ·rw [tf,ga]
  exact trodAll_mk1 (shut_bool NN true)
 ·rw [tf]
  exact sy hl hb EE hA aB
 ·rw [tf,OB]
  rfl
end
theorem own:ownKnob Tryz.prog.godebug=none:=by kernel_rfl
noncomputable def ug (os:Os):World:=World.holding Tryz.prog os ⟨#[],#[],[]⟩
theorem U9 {g:Gh}{w:World}{a b:AV}{x y:Value}(h:aA g w a x) (k:aA g w b y):jd g w [a,b] #[x,y]:=⟨rfl,fun i c z hc hz=>by
 match i with
 |0=>simp at hc hz;subst hc hz;exact h
 |1=>simp at hc hz;subst hc hz;exact k
 |i+2=>simp at hc⟩
end
section
set_option maxRecDepth 100000
def J6:List UInt8->List UInt8->Bool
 |[],[]=>true
 |a::l,b::m=>match Nat.beq a.toNat b.toNat with|true=>J6 l m|false=>false
 |_,_=>false
theorem CG:∀ {a b:List UInt8},J6 a b=(a == b)
 |[],[]=>rfl
 |[],_::_=>rfl
 |_::_,[]=>rfl
 |a::l,b::m=>by
  simp only [J6,List.cons_beq_cons]
  rw [CG (a:=l)]
  cases h:Nat.beq a.toNat b.toNat with
  |true =>
   have:a=b:=UInt8.toNat_inj.1 (Nat.eq_of_beq_eq_true h)
   simp [this]
  |false =>
   have:¬ a=b:=fun e=>by rw [e,Nat.beq_refl] at h;cases h
   simp [this]
def CH (m n:ByteArray) (i j:Int):Bool:=match J6 m.data.toList n.data.toList with|true=>decide (i=j)|false=>false
theorem Rk {m n:ByteArray}{i j:Int}:CH m n i j=(m.toList == n.toList && i == j):=by
 unfold CH
 rw [CG,<-ByteArray.toList_eq,<-ByteArray.toList_eq]
 cases m.toList == n.toList with
 |true=>by_cases h:i=j<;>simp [h]
 |false=>rfl
def r6:Value->Option (ByteArray × Int)
 |.agg a=>match a.toList with
  |[.string m,.int .i64 i]=>some (m,i)
  |_=>none
 |_=>none
theorem u5 {v:Value}{p:ByteArray × Int}(h:r6 v=some p):v=.agg #[.string p.1,.int .i64 p.2]:=by
 unfold r6 at h
 split at h
 ·rename_i a
  split at h
  ·rename_i m i e
   obtain rfl:=Option.some.inj h
   rw [<-Array.toArray_toList (xs:=a),e]
  ·cases h
 ·cases h
def Mb (kt:Nat) (v:Value):Bool:=match Nat.beq kt 77,r6 v with
 |true,some _=>true
 |_,_=>false
def Tk (v w:Value):Bool:=match r6 v,r6 w with
 |some p,some q=>CH p.1 q.1 p.2 q.2
 |_,_=>false
def Mc (t:Nat) (v w:Value):Option Bool:=match Nat.beq t 77,r6 v,r6 w with
 |true,some p,some q=>some (CH p.1 q.1 p.2 q.2)
 |_,_,_=>none
section
variable {w0:World}
theorem CI (n n':ByteArray) (i i':Int):Of Tryz.prog 77 (.agg #[.string n,.int .i64 i]) (.agg #[.string n',.int .i64 i']) (CH n n' i i'):=by
 rw [Rk]
 refine⟨⟨_,_,rfl,rfl⟩,by kernel_rfl,fun w=>?_⟩
 have hS:Tryz.prog.underlying 77=some (.struct (Tryz.prog.fieldsOf 77)):=by kernel_rfl
 have hp:Tryz.prog.stoodInHeld 77=false:=by kernel_rfl
 have u3:=Tryz.underlying3
 have u9:=Tryz.underlying9
 have a3:=Tryz.isAgg3
 have a9:=Tryz.isAgg9
 rw [run_eql_struct,show (10000:Nat)=9998+1+1 from rfl,run_equalIn_agg w _ 77 _ _ hS hp]
 simp only [Program.fieldsOf,Tryz.underlying77]
 have e1:∀ w,(Op.equalIn (9998+1) 9 (.string n) (.string n')).run Tryz.prog w=.ok (n.toList == n'.toList) w:=fun w=>run_equalIn_string w _ _ _ _ u9
 have e2:∀ w,(Op.equalIn (9998+1) 3 (.int .i64 i) (.int .i64 i')).run Tryz.prog w=.ok (i == i') w:=fun w=>run_equalIn_int w _ _ _ _ _ _ u3
 cases h1:(n.toList == n'.toList)<;>cases h2:(i == i')<;>simp [Op.eqFields,part,a3,a9,e1,e2,h1,h2]
theorem Rm {X:Result Bool}{e:Bool}{w:World}(h:(X.andThen fun b w'=>Result.ok (Value.bool b) w')=.ok (.bool e) w):X=.ok e w:=by
 cases X with
 |ok b w' =>
  simp only [Result.andThen,Result.ok.injEq,Value.bool.injEq] at h
  rw [h.1,h.2]
 |_=>cases h
theorem J7 (n:ByteArray) (i:Int) (es:List (Value × AV)) (hes:∀ p ∈ es,∃ q,r6 p.1=some q):wH Tryz.prog 77 (.agg #[.string n,.int .i64 i]) es (Tk (.agg #[.string n,.int .i64 i])):=by
 have hS:Tryz.prog.underlying 77=some (.struct (Tryz.prog.fieldsOf 77)):=by kernel_rfl
 have u3:=Tryz.underlying3
 have u9:=Tryz.underlying9
 have a3:=Tryz.isAgg3
 have a9:=Tryz.isAgg9
 refine⟨fun b w=>?_,⟨_,hS⟩,fun p hp w=>?_⟩
 ·have key:∀ q:Nat,(Instr.checkKey b (q+1+1) 77 (.agg #[.string n,.int .i64 i])).run Tryz.prog w=.ok () w:=by
   intro q
   have e1:∀ w,(Instr.checkKey b (q+1) 9 (.string n)).run Tryz.prog w=.ok () w:=fun w=>by
    rw [Instr.checkKey]
    simp only [Sem.run_bind,run_underlying u9,Result.andThen_ok,Sem.run_pure]
   have e2:∀ w,(Instr.checkKey b (q+1) 3 (.int .i64 i)).run Tryz.prog w=.ok () w:=fun w=>by
    rw [Instr.checkKey]
    simp only [Sem.run_bind,run_underlying u3,Result.andThen_ok,Sem.run_pure]
   rw [Instr.checkKey]
   simp only [Sem.run_bind,run_underlying hS,Result.andThen_ok]
   simp only [Program.fieldsOf,Tryz.underlying77]
   simp [part,a3,a9,e1,e2]
  exact key 9998
 ·obtain⟨⟨n',i'⟩,hq⟩:=hes p hp
  have e:=u5 hq
  have h:=(CI n n' i i').2.2 w
  rw [run_eql_struct] at h
  have h2:=Rm h
  rw [e]
  exact h2
theorem Ro {F:Fence}(hF:fZ F) (n:Nat) (p:Addr) (w:World):CallsDIn F.plain n Tryz.prog 200 #[.pointer (some p)] .returning w fun e u' w'=>e=.returned (.tuple #[])/\u'=.returning/\w'=w:=by
 refine callsDIn_of_wpSIn Tryz.func200 rfl (hF.1 _) fun aaY cs hu=>?_
 simp only [Tryz.ntmps200,List.size_toArray,List.length_cons,List.length_nil,Nat.reduceAdd,Nat.reduceSub,Array.replicate_succ,Array.replicate_zero,List.push_toArray,List.append_toArray,List.nil_append,List.cons_append]
 apply wpSIn_seq
 apply wpSIn_region
 simp [wpOpsSIn,go_sem,recoverD,hu,Exit.thenS,hF.1]
 refine wpSIn_of_wpIn rfl ?_
 refine wpIn_block (wpIn_seq (wpIn_region ?_))
 simp [wpOpsIn,go_sem]
 refine wpIn_cond (t:=true) (by simp [Act.eval]) ?_
 simp only [if_true]
 refine wpIn_region ?_
 simp [wpOpsIn,go_sem,bodyPostS,results,Tryz.results200,Exit.inBlock]
 cases aaY
 simp_all
def Tl (a e:Int):aa:=(lZ aa.none_ [AV.v (.int .i64 a)]).2.set 0 (some (.arr 1 [[AV.v (.int .i64 e)]] 0 true))
theorem J8 {A:Nat->Prop}{g2:Gh}{S:aa}{w2:World}{a e:Int}{b:Nat}(pe:St w0 A g2 S w2) (h0:S.get 0=some (.arr 1 [[AV.v (.int .i64 a)]] 0 true)) (hk:g2.al 0) (gK:g2.ob 0=b) :
  w2.cell? ⟨b,0,none⟩=some (.int .i64 a)/\w2.frozen? ⟨b,0,none⟩=false/\b < w2.heap.size/\Ext A g2 w2 g2 (w2.setCell ⟨b,0,none⟩ (.int .i64 e))/\St w0 A g2 (S.set 0 (some (.arr 1 [[AV.v (.int .i64 e)]] 0 true))) (w2.setCell ⟨b,0,none⟩ (.int .i64 e)):=by
 obtain⟨k2,k3,cells,ty,p1,p2,p3,p4,p5,p6,p7⟩:=pe.bj 0 _ h0 hk
 rw [gK] at k2 k3 p1
 obtain⟨x,mH,iN⟩:=(p5 0 _ rfl).2 0 _ rfl
 have iN:=bg iN
 subst iN
 have hc:w2.cell? ⟨b,0,none⟩=some (.int .i64 a):=by rw [cell_of_row w2 b _ cells ty (0,0) p1];simpa using mH
 have hz:w2.frozen? ⟨b,0,none⟩=false:=by simp [World.frozen?,p1]
 have jS:kV Tryz.prog S 45 (AV.v (.int .i64 e)) (.pt 0 1 0 0)=some (S.set 0 (some (.arr 1 [[AV.v (.int .i64 e)]] 0 true))):=by
  have:bZ Tryz.prog 45=some 1:=by kernel_rfl
  simp only [kV,h0,this]
  rfl
 have nC:aA g2 w2 (.pt 0 1 0 0) (.pointer (some ⟨b,0,none⟩)):=by
  have:=aA.pt (g:=g2) (w:=w2) (k:=0) (sz:=1) (i:=0) (j:=0) hk
  rw [gK] at this
  exact this
 obtain⟨c,o,w',e1,e2,_,e4,e5⟩:=tG pe jS nC (x:=.int .i64 e) .v
 simp only [Value.pointer.injEq,Option.some.injEq,Addr.mk.injEq,and_true] at e1
 obtain⟨rfl,rfl⟩:=e1
 have bw:(storeVar 45 ⟨b,0,none⟩ (.int .i64 e)).run Tryz.prog w2=.ok () (w2.setCell ⟨b,0,none⟩ (.int .i64 e)):=by simp [go_sem,hc,hz]
 rw [bw] at e2
 injection e2 with _ e2
 subst e2
 exact⟨hc,hz,k3,e4,e5⟩
theorem Md {g:FuncId}{fs cs:List AV}(hp:du (fs++cs)) (h:av Tryz.prog w0 g (fs++cs) (.aC [])):av Tryz.prog w0 131 [.fn (.func g) fs cs] (AV.v (.int .i64 0)):=by
 refine⟨.v,Tl 0 0,Tryz.call131,fun F m A gh aV w hF hS hA=>?_⟩
 obtain⟨aZ,NF⟩:=hA
 obtain⟨fv,rfl⟩:∃ fv,aV=#[fv]:=by
  obtain⟨l⟩:=aV
  match l,aZ with
  |[x],_=>exact⟨x,rfl⟩
 obtain⟨us,bs,rfl,fU,k_⟩:=xq (NF 0 _ _ rfl rfl)
 clear NF aZ
 have To:=Ce (w0:=w0) (A:=A) (cs:=[AV.v (.int .i64 0)]) (cells:=#[.int .i64 0]) (ty:=45) hS ⟨rfl,fun i a x h1 h2=>by
  match i,h1,h2 with
  |0,h1,h2=>obtain rfl:=Option.some.inj h1;obtain rfl:=Option.some.inj h2;exact .v⟩
 obtain⟨w1,zB⟩:∃ w1:World,w1=w.alloc (.cells #[.int .i64 0] 45):=⟨_,rfl⟩
 rw [<-zB] at To
 obtain⟨g1,ZO,er,ld⟩:=To
 have pM:jd g1 w1 (fs++cs) (us++bs):=by
  have:=iA fU k_
  exact⟨this.1,fun i a x h1 h2=>(this.2 i a x h1 h2).later ld.toLater⟩
 have cA:=(h.AW hp (lZ aa.none_ [AV.v (.int .i64 0)]).2).2 F.plain (m - 1) A g1 (us++bs) w1 hF.plain er pM
 have key:CallsIn F.plain m Tryz.prog 131 #[.func (.func g) us bs] w fun e w'=>∃ v g',e=.returned v/\aA g' w' (AV.v (.int .i64 0)) v/\St w0 A g' (Tl 0 0) w'/\Ext A gh w g' w':=by
  refine callsIn_of_wp_defers Tryz.func131 rfl (hF.1 _) ?_ rfl
  simp only [Tryz.ntmps131,List.size_toArray,List.length_cons,List.length_nil,Nat.reduceAdd,Nat.reduceSub,Array.replicate_succ,Array.replicate_zero,List.push_toArray,List.append_toArray,List.nil_append,List.cons_append]
  refine wpIn_seq (wpIn_region ?_)
  simp [wpOpsIn,go_sem]
  rw [<-zB]
  have qT:∀ (fn:Fn) (first cap:Array Value) (w:World),(Instr.makeFunc fn first cap).run Tryz.prog w=.ok (.func fn first cap) w:=fun _ _ _ _=>rfl
  refine wpIn_seq (wpIn_region ?_)
  simp [wpOpsIn,go_sem,qT]
  refine wpIn_seq (wpIn_region ?_)
  simp [wpOpsIn,go_sem]
  refine⟨hF.1 g,?_⟩
  rw [(h.AW hp aa.none_).1 (us++bs) w1,Oper.uponIn_enter]
  refine⟨fun hd=>(by rw [show F.plain.depth=F.depth from rfl,hF.2.1] at hd;cases hd),cA.mono ?_⟩
  rintro e w2 ⟨v,g2,rfl,_,pe,yd⟩
  simp only
  obtain⟨dL,jP⟩:g1.al 0/\g1.ob 0=w.heap.size:=by
   generalize hv:Value.pointer (some ⟨w.heap.size,0,none⟩)=y at ZO
   cases ZO with
   |pt hk=>simp [lZ,aa.none_] at hv;exact⟨hk,hv.symm⟩
  have eN:=yd.al 0 dL
  have Tp:g2.ob 0=w.heap.size:=(yd.ob 0 dL).trans jP
  obtain⟨hc,hz,aB,vp,te⟩:=J8 (e:=0) pe rfl eN Tp
  refine wpIn_seq (wpIn_region ?_)
  simp [wpOpsIn,go_sem,hc,hz]
  refine wpIn_ret ?_
  refine leavesIn_cons (f:=200) (args:=#[.pointer (some ⟨w.heap.size,0,none⟩)]) (by simp) (fun hd=>(by rw [show F.plain.depth=F.depth from rfl,hF.2.1] at hd;cases hd)) (by simp [go_sem]) (fun g hg=>hF.1 g) ?_
  refine (Ro hF _ _ _).mono ?_
  rintro e u' iY ⟨rfl,rfl,rfl⟩
  have DQ:(w2.setCell ⟨w.heap.size,0,none⟩ (.int .i64 0)).cell? ⟨w.heap.size,0,none⟩=some (.int .i64 0):=(J8 (e:=0) te rfl eN Tp).1
  simp [LeavesIn,settle,results,Tryz.results131,go_sem,DQ]
  exact⟨g2,.v,te,(ld.trans yd).trans vp⟩
 exact key
def CJ (cl:List Nat) (g:Nat) (l:List AV):Option AV:=match iC g cl with
 |true=>match l with
  |[.sl _ []]=>some (.sl true [])
  |_=>none
 |false=>none
def Tq (t:Tr ((QC × List QR) × Nat)) (cl wm:List Nat):Env:=⟨fun g=>ef t g,
 CJ cl,
 fun _ _=>none,fun g=>match Nat.beq g 131 with|true=>some (.v (.int .i64 0))|false=>none,fun g=>iC g wm,Mb,Tk,Mc,fun _=>none,fun _=>false⟩
theorem o9 {t:Tr ((QC × List QR) × Nat)}{cl wm:List Nat}(ht:∀ g c n,ef t g=some (c,n)->ae Tryz.prog g c n) (hc:∀ g,iC g cl=true->∀ A c,av Tryz.prog w0 g [.v (.slice A 0 c)] (.sl true [])):eC Tryz.prog w0 (Tq t cl wm) where
 seq:=fun t a b e h=>by
  have h:Mc t a b=some e:=h
  unfold Mc at h
  split at h
  ·rename_i p q ht ha hb
   rw [u5 ha,u5 hb,Nat.eq_of_beq_eq_true ht,<-Option.some.inj h]
   exact CI _ _ _ _
  ·cases h
 key:=fun kt v es h he=>by
  have key:∀ kt v,Mb kt v=true->kt=77/\∃ q,r6 v=some q:=fun kt v h=>by
   unfold Mb at h
   split at h
   ·rename_i p ht hv
    exact⟨Nat.eq_of_beq_eq_true ht,_,hv⟩
   ·cases h
  obtain⟨rfl,p,hp⟩:=key kt v h
  rw [u5 hp]
  exact J7 _ _ _ fun q hq=>(key _ _ (he q hq)).2
 x7:=fun g v h hh first cap hp hk=>by
  have h:(match Nat.beq g 131 with|true=>some (AV.v (.int .i64 0))|false=>none)=some v:=h
  split at h
  ·rename_i e
   obtain rfl:=Option.some.inj h
   rw [Nat.eq_of_beq_eq_true e]
   exact Md hp hk
  ·cases h
 qR:=ht
 ext:=fun g l r h=>by
  have h:CJ cl g l=some r:=h
  unfold CJ at h
  split at h
  ·rename_i hm
   split at h
   ·obtain rfl:=Option.some.inj h
    exact⟨av.emp (hc g hm),.sl (fun row h=>by cases h),trivial⟩
   ·cases h
  ·cases h
 nat:=fun g l v h=>by cases h
end
end
section
set_option maxRecDepth 100000
def uA:AV:=.sl false [[.v (.int .i64 1),.v (.int .i64 0),.v (.string ⟨#[]⟩),.sl false []]]
def uB:AV:=.sl false [[.v (.int .i64 1),.v (.int .i64 1),.v (.string ⟨#[]⟩),.sl false []]]
def uR:AV:=.aC [.sl false [[.v (.int .i64 1),.v (.int .i64 1),.v (.int .i64 0),.v (.string ⟨#[]⟩),.sl false []]],.v (.int .i64 0)]
theorem EF:Pure uA/\Pure uB:=by
 have:∀ i,Pure (.sl false [[.v (.int .i64 1),.v (.int .i64 i),.v (.string ⟨#[]⟩),.sl false []]]):=fun i=>by
  refine .sl fun row hr a ha=>?_
  obtain rfl:=List.mem_singleton.1 hr
  simp only [List.mem_cons,List.not_mem_nil,or_false] at ha
  rcases ha with rfl|rfl|rfl|rfl
  ·exact .v
  ·exact .v
  ·exact .v
  ·exact .sl fun row h=>by cases h
 exact⟨this _,this _⟩
def Me (g:Nat) (l:List AV):Option AV:=match Nat.beq g 292,l with
 |true,[a,b]=>match wP 9 a uA,wP 9 b uB with
  |true,true=>some uR
  |_,_=>none
 |_,_=>none
def ZP (t:Tr ((QC × List QR) × Nat)) (cl wm:List Nat):Env:={ Tq t cl wm with
 ext:=fun g l=>match CJ cl g l with|some r=>some r|none=>Me g l
 sp:=fun g=>match Nat.beq g 355 with|true=>some 1|false=>none
 fx:=fun g=>Nat.beq g 292 }
section
variable {w0:World}
theorem Ts {t:Tr ((QC × List QR) × Nat)}{cl wm:List Nat}(ht:∀ g c n,ef t g=some (c,n)->ae Tryz.prog g c n) (hc:∀ g,iC g cl=true->∀ A c,av Tryz.prog w0 g [.v (.slice A 0 c)] (.sl true [])) (hu:av Tryz.prog w0 292 [uA,uB] uR):eC Tryz.prog w0 (ZP t cl wm) where
 seq:=(o9 (wm:=wm) ht hc).seq
 key:=(o9 (wm:=wm) ht hc).key
 x7:=(o9 (wm:=wm) ht hc).x7
 qR:=(o9 (wm:=wm) ht hc).qR
 nat:=(o9 (wm:=wm) ht hc).nat
 ext:=fun g l r h=>by
  have h:(match CJ cl g l with|some r=>some r|none=>Me g l)=some r:=h
  split at h
  ·rename_i r' he
   obtain rfl:=Option.some.inj h
   exact (o9 (wm:=wm) ht hc).ext g l r' he
  ·unfold Me at h
   split at h
   ·rename_i hg a b
    split at h
    ·rename_i ha hb
     obtain rfl:=Option.some.inj h
     have hg:=Nat.eq_of_beq_eq_true (by assumption)
     rw [hg,qO _ _ ha,qO _ _ hb]
     exact⟨hu,EF.1,EF.2,trivial⟩
    ·cases h
   ·cases h
end
end
section
variable {P:Program}{w0:World}{n:Nat}{α:AA}{S:aa}
theorem Aq {m:Nat}{x i:QO}{o:Op}(h:res P.toTables o=some (.lx m x i)):∃ t u v e,o=.indexAddr t u v/\x=qo u/\i=qo v/\P.underlying t=some (.slice e)/\bZ P e=some m:=by
 cases o<;>simp only [res,a7,cL] at h<;>(repeat' split at h)<;>(try cases h)
 exact⟨_,_,_,_,rfl,rfl,rfl,by assumption,by assumption⟩
theorem CK {o:Oper}{m p:Nat}{x i:QO}{k len:Nat}{ik:IntKind}{j:Int}(hr:res P.toTables o.op=some (.lx m x i)) (β:AA) (h:x.ev β.tm=.gr k m len) (hi:i.ev β.tm=.v (.int ik j)) (hp:j=p) (aB:p < len):de P w0 n o β S (.pt k m p 0) S:=by
 obtain⟨t,u,v,e,ho,rfl,rfl,hu,hs⟩:=Aq hr
 rw [aD] at h hi
 refine aI.ops (aI.quiet fun A g q w hS hA=>?_) fun c' e=>by
  rw [ho] at e
  cases e
 have h1:=hA.ev u
 have h2:=hA.ev v
 rw [h] at h1
 rw [hi] at h2
 rcases me h1 with ⟨rfl,A',hv⟩|⟨hk,c',hv,_,_⟩
 ·omega
 ·refine⟨_,?_,aA.pt (g:=g) (w:=w) (k:=k) (sz:=m) (i:=p) (j:=0) hk⟩
  subst hp
  simp only [execOp,ho,hv,bg h2,Instr.indexAt,asIntOf,Sem.run_bind,run_underlying hu,bF hs,Result.andThen_ok,Sem.run_pure]
  rw [if_pos ⟨by omega,by omega⟩]
  simp [bF hs,dV]
theorem ad.lK {dr:Bool}{m p:Nat}{x i:QO}{k len:Nat}{ik:IntKind}{j:Int}(h:x.ev α.tm=.gr k m len) (hi:i.ev α.tm=.v (.int ik j)) (hp:j=p) (aB:p < len):ad P w0 dr (.lx m x i) α S (.pt k m p 0) S:=by
 cases dr with
 |false=>exact fun n o hr=>CK hr α h hi hp aB
 |true =>
  intro n o hr
  obtain⟨t,u,v,e,ho,hx,hy,hu,hs⟩:=Aq hr
  have e1:∀ y ∈ [u,v],(α.only (bU o)).ev y=α.ev y:=fun y hy=>dM fun t2 e2=>dA (by rw [ho];simp [Op.operands,<-e2];simpa using hy)
  have h2:x.ev (α.only (bU o)).tm=.gr k m len:=by
   rw [<-h,hx,aD,aD]
   exact e1 u (by simp)
  have h3:i.ev (α.only (bU o)).tm=.v (.int ik j):=by
   rw [<-hi,hy,aD,aD]
   exact e1 v (by simp)
  have h4:∀ T,de P w0 n o (α.only (bU o)) T (.pt k m p 0) T:=fun T=>CK hr _ h2 h3 hp aB
  exact⟨h4 S,fun _=>⟨rfl,h4⟩,fun _=>rfl⟩
theorem a_.o8 {B:Nat}{k:LK}{x:QO}{b sz i j fz:Nat}{ex:Bool}{rows:List (List AV)}{row:List AV}{a:AV}(hx:x.ev α.tm=.pt b sz i j) (hk:S.get b=some (.arr sz rows fz ex)) (hi:rows[i]?=some row) (ha:l7 k row j=some a) :
  a_ P w0 B (.load k x) α S a ⟨[(b,.arr sz rows fz ex)],[],false⟩:=by
 refine fun n o hr=>⟨fun hp=>?_,(show fu S [(b,.arr sz rows fz ex)] from fun p hp=>by simp only [List.mem_singleton] at hp;subst hp;exact hk),fun T _ hT _=>?_⟩
 ·exfalso
  generalize o.op=op at hr hp
  cases op<;>simp only [res] at hr<;>(repeat' split at hr)<;>(try cases hr)<;>cases hp
 ·rw [show cJ T [] false=T from cE]
  exact (ad.o8 (P:=P) (w0:=w0) (dr:=true) (S:=T) hx (hT (b,.arr sz rows fz ex) (by simp)) hi ha n o hr).1
theorem Cv.Tt {kb k sz sz' fz j m:Nat}{row:List AV}{rows:List (List AV)}{ex ex':Bool}(hb:S.get kb=some (.arr sz [row] fz ex)) (hk:S.get k=some (.arr sz' rows 0 ex')) (aP:kb ≠ k) (hj:row[j]?=some (.gr k sz' m)) (hm:m=rows.length) :
  Cv w0 n α S α ((S.set k none).set kb (some (.arr sz [row.set j (.sl false rows)] fz ex))):=by
 intro A g q w hS hA
 have hF:bX (aa.none_.set k (some (.arr sz' rows 0 ex'))) (.gr k sz' m) (.sl false rows):=.gr (ah _ _ _) (by omega) hm.symm (fun i row aM h1 h2=>by rw [h1] at h2;rw [Option.some.inj h2]) fun i j row aM a a' h1 h2 h3 h4=>by
  rw [h1] at h2
  obtain rfl:=Option.some.inj h2
  rw [h3] at h4
  obtain rfl:=Option.some.inj h4
  exact .refl _
 obtain⟨N,hN⟩:∃ N:aa,N=aa.none_.set k (some (.arr sz' rows 0 ex')):=⟨_,rfl⟩
 rw [<-hN] at hF
 have wQ:∀ j o,N.get j=some o->j=k/\o=.arr sz' rows 0 ex':=fun j o hj=>by
  rw [hN] at hj
  have hj:aX (fun _=>none) k (some (Ob.arr sz' rows 0 ex')) j=some o:=hj
  by_cases e:j=k
  ·subst e;rw [ah] at hj;exact⟨rfl,(Option.some.inj hj).symm⟩
  ·rw [aq _ _ e] at hj;cases hj
 have Ar:∀ j o,N.get j=some o->S.get j=some o:=fun j o hj=>by
  obtain⟨rfl,rfl⟩:=wQ j o hj
  exact hk
 obtain⟨hE,dO⟩:=hS.z_ (S':=S.set k none) Ar (Nat.le_refl _) fun j o hj=>by
  have hj:aX S.get k none j=some o:=hj
  by_cases e:j=k
  ·subst e;rw [ah] at hj;cases hj
  ·rw [aq _ _ e] at hj
   refine⟨hj,?_⟩
   rw [hN]
   show aX (fun _=>none) k _ j=none
   rw [aq _ _ e]
 have Oq:St w0 A g ⟨N.get,S.nx⟩ w:=hS.forget (Nat.le_refl _) fun j p hj _=>Ar j p hj
 have DN:bX ⟨N.get,S.nx⟩ (.gr k sz' m) (.sl false rows):=hF.mono (S:=N) (T:=⟨N.get,S.nx⟩) fun _ _ _ _ _ h=>h
 refine⟨g.still N,dO.AT (Nat.le_refl _) fun i o' hi ha=>?_,hA.later hE.toLater,hE⟩
 have hi:aX (S.set k none).get kb (some (.arr sz [row.set j (.sl false rows)] fz ex)) i=some o':=hi
 by_cases e:i=kb
 ·subst e
  rw [ah] at hi
  obtain rfl:=Option.some.inj hi
  have gA:(S.set k none).get i=some (.arr sz [row] fz ex):=by
   show aX S.get k none i=_
   rw [aq _ _ aP]
   exact hb
  refine⟨_,gA,fun h=>?_,fun J h=>by cases h⟩
  obtain⟨cs,ty,h1,h2,h3,h4,h5,h6,h7⟩:=h
  have bL:g.al i:=ha
  obtain⟨_,_,tK,ty0,b1,b2,b3,b4,b5,b6,b7⟩:=hS.bj i _ hb bL
  have e1:w.heap[g.ob i]?=some (.cells cs ty (0,0)):=h1
  rw [e1] at b1
  simp only [Option.some.injEq,Obj.cells.injEq] at b1
  obtain⟨rfl,rfl,_⟩:=b1
  refine⟨cs,ty,h1,h2,h3,h4,fun r aM hr=>?_,h6,h7⟩
  cases r with
  |succ r=>simp at hr
  |zero =>
   simp only [List.getElem?_cons_zero,Option.some.injEq] at hr
   subst hr
   obtain⟨q1,q2⟩:=h5 0 row rfl
   refine⟨by rw [List.length_set];exact q1,fun p a hp=>?_⟩
   rw [List.getElem?_set] at hp
   by_cases e2:j=p
   ·subst e2
    have aB:=(List.getElem?_eq_some_iff.1 hj).1
    rw [if_pos rfl,if_pos aB] at hp
    obtain rfl:=Option.some.inj hp
    obtain⟨x,hx,cK⟩:=(b5 0 row rfl).2 j _ hj
    exact⟨x,hx,DN.rep Oq cK⟩
   ·rw [if_neg e2] at hp
    exact q2 p a hp
 ·rw [aq _ _ e] at hi
  exact⟨o',hi,fun h=>h,fun J h=>h⟩
end
end Go.Proofs.YtgjfgekaclobaaaGreat
