import Derived.RecoverIn
import Derived.TacticsIn
import Derived.TacticsInMore
import Derived.Test.YtbofilglphfceaaGreatProg
import Derived.Test.YtbofilglphfceaaGreatD36
namespace Go.Proofs.YtbofilglphfceaaGreat
set_option linter.unusedVariables false
set_option linter.unusedSimpArgs false
open Go.RowKit
section
set_option maxRecDepth 100000
def C4:List UInt8->List UInt8->Bool
 |[],[]=>true
 |a::l,b::m=>match Nat.beq a.toNat b.toNat with|true=>C4 l m|false=>false
 |_,_=>false
theorem vO:∀ {a b:List UInt8},C4 a b=(a == b)
 |[],[]=>rfl
 |[],_::_=>rfl
 |_::_,[]=>rfl
 |a::l,b::m=>by
  simp only [C4,List.cons_beq_cons]
  rw [vO (a:=l)]
  cases h:Nat.beq a.toNat b.toNat with
  |true =>
   have:a=b:=UInt8.toNat_inj.1 (Nat.eq_of_beq_eq_true h)
   simp [this]
  |false =>
   have:¬ a=b:=fun e=>by rw [e,Nat.beq_refl] at h;cases h
   simp [this]
def vP (m n:ByteArray) (i j:Int):Bool:=match C4 m.data.toList n.data.toList with|true=>decide (i=j)|false=>false
theorem HU {m n:ByteArray}{i j:Int}:vP m n i j=(m.toList == n.toList && i == j):=by
 unfold vP
 rw [vO,<-ByteArray.toList_eq,<-ByteArray.toList_eq]
 cases m.toList == n.toList with
 |true=>by_cases h:i=j<;>simp [h]
 |false=>rfl
def nI:Value->Option (ByteArray × Int)
 |.agg a=>match a.toList with
  |[.string m,.int .i64 i]=>some (m,i)
  |_=>none
 |_=>none
theorem pI {v:Value}{p:ByteArray × Int}(h:nI v=some p):v=.agg #[.string p.1,.int .i64 p.2]:=by
 unfold nI at h
 split at h
 ·rename_i a
  split at h
  ·rename_i m i e
   obtain rfl:=Option.some.inj h
   rw [<-Array.toArray_toList (xs:=a),e]
  ·cases h
 ·cases h
def Ev (kt:Nat) (v:Value):Bool:=match Nat.beq kt 104,nI v with
 |true,some _=>true
 |_,_=>false
def J2 (v w:Value):Bool:=match nI v,nI w with
 |some p,some q=>vP p.1 q.1 p.2 q.2
 |_,_=>false
def Ew (t:Nat) (v w:Value):Option Bool:=match Nat.beq t 104,nI v,nI w with
 |true,some p,some q=>some (vP p.1 q.1 p.2 q.2)
 |_,_,_=>none
section
variable {w0:World}
theorem vQ (n n':ByteArray) (i i':Int):FY Tryz.prog 104 (.agg #[.string n,.int .i64 i]) (.agg #[.string n',.int .i64 i']) (vP n n' i i'):=by
 rw [HU]
 refine⟨⟨_,_,rfl,rfl⟩,by kernel_rfl,fun w=>?_⟩
 have hS:Tryz.prog.underlying 104=some (.struct (Tryz.prog.fieldsOf 104)):=by kernel_rfl
 have hp:Tryz.prog.stoodInHeld 104=false:=by kernel_rfl
 have u3:=Tryz.underlying3
 have u9:=Tryz.underlying9
 have a3:=Tryz.isAgg3
 have a9:=Tryz.isAgg9
 rw [run_eql_struct,show (10000:Nat)=9998+1+1 from rfl,run_equalIn_agg w _ 104 _ _ hS hp]
 simp only [Program.fieldsOf,Tryz.underlying104]
 have e1:∀ w,(Op.equalIn (9998+1) 9 (.string n) (.string n')).run Tryz.prog w=.ok (n.toList == n'.toList) w:=fun w=>run_equalIn_string w _ _ _ _ u9
 have e2:∀ w,(Op.equalIn (9998+1) 3 (.int .i64 i) (.int .i64 i')).run Tryz.prog w=.ok (i == i') w:=fun w=>run_equalIn_int w _ _ _ _ _ _ u3
 cases h1:(n.toList == n'.toList)<;>cases h2:(i == i')<;>simp [Op.eqFields,part,a3,a9,e1,e2,h1,h2]
theorem HV {X:Result Bool}{e:Bool}{w:World}(h:(X.andThen fun b w'=>Result.ok (Value.bool b) w')=.ok (.bool e) w):X=.ok e w:=by
 cases X with
 |ok b w' =>
  simp only [Result.andThen,Result.ok.injEq,Value.bool.injEq] at h
  rw [h.1,h.2]
 |_=>cases h
theorem C5 (n:ByteArray) (i:Int) (es:List (Value × AV)) (S4:∀ p ∈ es,∃ q,nI p.1=some q):qH Tryz.prog 104 (.agg #[.string n,.int .i64 i]) es (J2 (.agg #[.string n,.int .i64 i])):=by
 have hS:Tryz.prog.underlying 104=some (.struct (Tryz.prog.fieldsOf 104)):=by kernel_rfl
 have u3:=Tryz.underlying3
 have u9:=Tryz.underlying9
 have a3:=Tryz.isAgg3
 have a9:=Tryz.isAgg9
 refine⟨fun b w=>?_,⟨_,hS⟩,fun p hp w=>?_⟩
 ·have key:∀ q:Nat,(Instr.checkKey b (q+1+1) 104 (.agg #[.string n,.int .i64 i])).run Tryz.prog w=.ok () w:=by
   intro q
   have e1:∀ w,(Instr.checkKey b (q+1) 9 (.string n)).run Tryz.prog w=.ok () w:=fun w=>by
    rw [Instr.checkKey]
    simp only [Sem.run_bind,run_underlying u9,Result.andThen_ok,Sem.run_pure]
   have e2:∀ w,(Instr.checkKey b (q+1) 3 (.int .i64 i)).run Tryz.prog w=.ok () w:=fun w=>by
    rw [Instr.checkKey]
    simp only [Sem.run_bind,run_underlying u3,Result.andThen_ok,Sem.run_pure]
   rw [Instr.checkKey]
   simp only [Sem.run_bind,run_underlying hS,Result.andThen_ok]
   simp only [Program.fieldsOf,Tryz.underlying104]
   simp [part,a3,a9,e1,e2]
  exact key 9998
 ·obtain⟨⟨n',i'⟩,hq⟩:=S4 p hp
  have e:=pI hq
  have h:=(vQ n n' i i').2.2 w
  rw [run_eql_struct] at h
  have h2:=HV h
  rw [e]
  exact h2
theorem HW {F:Fence}(hF:fM F) (n:Nat) (p:Addr) (w:World):CallsDIn F.plain n Tryz.prog 182 #[.pointer (some p)] .returning w fun e u' w'=>e=.returned (.tuple #[])/\u'=.returning/\w'=w:=by
 refine callsDIn_of_wpSIn Tryz.func182 rfl (hF.1 _) fun QP cs hu=>?_
 simp only [Tryz.ntmps182,List.size_toArray,List.length_cons,List.length_nil,Nat.reduceAdd,Nat.reduceSub,Array.replicate_succ,Array.replicate_zero,List.push_toArray,List.append_toArray,List.nil_append,List.cons_append]
 apply wpSIn_seq
 apply wpSIn_region
 simp [wpOpsSIn,go_sem,recoverD,hu,Exit.thenS,hF.1]
 refine wpSIn_of_wpIn rfl ?_
 refine wpIn_block (wpIn_seq (wpIn_region ?_))
 simp [wpOpsIn,go_sem]
 refine wpIn_cond (t:=true) (by simp [Act.eval]) ?_
 simp only [if_true]
 refine wpIn_region ?_
 simp [wpOpsIn,go_sem,bodyPostS,results,Tryz.results182,Exit.inBlock]
 cases QP
 simp_all
def J3 (a e:Int):U:=(jd U.none_ [AV.v (.int .i64 a)]).2.set 0 (some (.arr 1 [[AV.v (.int .i64 e)]] 0 true))
theorem C6 {A:Nat->Prop}{g2:Gh}{S:U}{w2:World}{a e:Int}{b:Nat}(km:St w0 A g2 S w2) (h0:S.get 0=some (.arr 1 [[AV.v (.int .i64 a)]] 0 true)) (hk:g2.al 0) (gE:g2.ob 0=b) :
  w2.cell? ⟨b,0,none⟩=some (.int .i64 a)/\w2.frozen? ⟨b,0,none⟩=false/\b < w2.heap.size/\Ext A g2 w2 g2 (w2.setCell ⟨b,0,none⟩ (.int .i64 e))/\St w0 A g2 (S.set 0 (some (.arr 1 [[AV.v (.int .i64 e)]] 0 true))) (w2.setCell ⟨b,0,none⟩ (.int .i64 e)):=by
 obtain⟨k2,k3,cells,ty,p1,p2,p3,p4,p5,p6,p7⟩:=km.bE 0 _ h0 hk
 rw [gE] at k2 k3 p1
 obtain⟨x,dR,bI⟩:=(p5 0 _ rfl).2 0 _ rfl
 have bI:=a_ bI
 subst bI
 have hc:w2.cell? ⟨b,0,none⟩=some (.int .i64 a):=by rw [cell_of_row w2 b _ cells ty (0,0) p1];simpa using dR
 have hz:w2.frozen? ⟨b,0,none⟩=false:=by simp [World.frozen?,p1]
 have j9:iq Tryz.prog S 57 (AV.v (.int .i64 e)) (.pt 0 1 0 0)=some (S.set 0 (some (.arr 1 [[AV.v (.int .i64 e)]] 0 true))):=by
  have:bV Tryz.prog 57=some 1:=by kernel_rfl
  simp only [iq,h0,this]
  rfl
 have S5:ao g2 w2 (.pt 0 1 0 0) (.pointer (some ⟨b,0,none⟩)):=by
  have:=ao.pt (g:=g2) (w:=w2) (k:=0) (sz:=1) (i:=0) (j:=0) hk
  rw [gE] at this
  exact this
 obtain⟨c,o,w',e1,e2,_,e4,e5⟩:=oR km j9 S5 (x:=.int .i64 e) .v
 simp only [Value.pointer.injEq,Option.some.injEq,Addr.mk.injEq,and_true] at e1
 obtain⟨rfl,rfl⟩:=e1
 have bm:(storeVar 57 ⟨b,0,none⟩ (.int .i64 e)).run Tryz.prog w2=.ok () (w2.setCell ⟨b,0,none⟩ (.int .i64 e)):=by simp [go_sem,hc,hz]
 rw [bm] at e2
 injection e2 with _ e2
 subst e2
 exact⟨hc,hz,k3,e4,e5⟩
theorem Ex {g:FuncId}{fs cs:List AV}(hp:cF (fs++cs)) (h:ag Tryz.prog w0 g (fs++cs) (.aL [])):ag Tryz.prog w0 100 [.fn (.func g) fs cs] (AV.v (.int .i64 0)):=by
 refine⟨.v,J3 0 0,Tryz.call100,fun F m A gh bz w hF hS hA=>?_⟩
 obtain⟨a7,Gu⟩:=hA
 obtain⟨fv,rfl⟩:∃ fv,bz=#[fv]:=by
  obtain⟨l⟩:=bz
  match l,a7 with
  |[x],_=>exact⟨x,rfl⟩
 obtain⟨us,bs,rfl,ec,jA⟩:=Cq (Gu 0 _ _ rfl rfl)
 clear Gu a7
 have J4:=vR (w0:=w0) (A:=A) (cs:=[AV.v (.int .i64 0)]) (cells:=#[.int .i64 0]) (ty:=57) hS ⟨rfl,fun i a x h1 h2=>by
  match i,h1,h2 with
  |0,h1,h2=>obtain rfl:=Option.some.inj h1;obtain rfl:=Option.some.inj h2;exact .v⟩
 obtain⟨w1,tF⟩:∃ w1:World,w1=w.alloc (.cells #[.int .i64 0] 57):=⟨_,rfl⟩
 rw [<-tF] at J4
 obtain⟨g1,GN,dF,jl⟩:=J4
 have S6:ia g1 w1 (fs++cs) (us++bs):=by
  have:=iu ec jA
  exact⟨this.1,fun i a x h1 h2=>(this.2 i a x h1 h2).later jl.toLater⟩
 have dg:=(h.yj hp (jd U.none_ [AV.v (.int .i64 0)]).2).2 F.plain (m - 1) A g1 (us++bs) w1 hF.plain dF S6
 have key:CallsIn F.plain m Tryz.prog 100 #[.func (.func g) us bs] w fun e w'=>∃ v g',e=.returned v/\ao g' w' (AV.v (.int .i64 0)) v/\St w0 A g' (J3 0 0) w'/\Ext A gh w g' w':=by
  refine callsIn_of_wp_defers Tryz.func100 rfl (hF.1 _) ?_ rfl
  simp only [Tryz.ntmps100,List.size_toArray,List.length_cons,List.length_nil,Nat.reduceAdd,Nat.reduceSub,Array.replicate_succ,Array.replicate_zero,List.push_toArray,List.append_toArray,List.nil_append,List.cons_append]
  refine wpIn_seq (wpIn_region ?_)
  simp [wpOpsIn,go_sem]
  rw [<-tF]
  have S7:∀ (fn:Fn) (first cap:Array Value) (w:World),(Instr.makeFunc fn first cap).run Tryz.prog w=.ok (.func fn first cap) w:=fun _ _ _ _=>rfl
  refine wpIn_seq (wpIn_region ?_)
  simp [wpOpsIn,go_sem,S7]
  refine wpIn_seq (wpIn_region ?_)
  simp [wpOpsIn,go_sem]
  refine⟨hF.1 g,?_⟩
  rw [(h.yj hp U.none_).1 (us++bs) w1,Oper.uponIn_enter]
  refine⟨fun hd=>(by rw [show F.plain.depth=F.depth from rfl,hF.2.1] at hd;cases hd),dg.mono ?_⟩
  rintro e w2 ⟨v,g2,rfl,_,km,vS⟩
  simp only
  obtain⟨iY,gF⟩:g1.al 0/\g1.ob 0=w.heap.size:=by
   generalize hv:Value.pointer (some ⟨w.heap.size,0,none⟩)=y at GN
   cases GN with
   |pt hk=>simp [jd,U.none_] at hv;exact⟨hk,hv.symm⟩
  have gS:=vS.al 0 iY
  have J5:g2.ob 0=w.heap.size:=(vS.ob 0 iY).trans gF
  obtain⟨hc,hz,au,pV,oH⟩:=C6 (e:=0) km rfl gS J5
  refine wpIn_seq (wpIn_region ?_)
  simp [wpOpsIn,go_sem,hc,hz]
  refine wpIn_ret ?_
  refine leavesIn_cons (f:=182) (args:=#[.pointer (some ⟨w.heap.size,0,none⟩)]) (by simp) (fun hd=>(by rw [show F.plain.depth=F.depth from rfl,hF.2.1] at hd;cases hd)) (by simp [go_sem]) (fun g hg=>hF.1 g) ?_
  refine (HW hF _ _ _).mono ?_
  rintro e u' mG ⟨rfl,rfl,rfl⟩
  have xb:(w2.setCell ⟨w.heap.size,0,none⟩ (.int .i64 0)).cell? ⟨w.heap.size,0,none⟩=some (.int .i64 0):=(C6 (e:=0) oH rfl gS J5).1
  simp [LeavesIn,settle,results,Tryz.results100,go_sem,xb]
  exact⟨g2,.v,oH,(jl.trans vS).trans pV⟩
 exact key
def Ey (cl:List Nat) (g:Nat) (l:List AV):Option AV:=match fF g cl with
 |true=>match l with
  |[.sl _ []]=>some (.sl true [])
  |_=>none
 |false=>none
def J6 (t:Tr ((QC × List QR) × Nat)) (cl wm:List Nat):Env:=⟨fun g=>dm t g,
 Ey cl,
 fun _ _=>none,fun g=>match Nat.beq g 100 with|true=>some (.v (.int .i64 0))|false=>none,fun g=>fF g wm,Ev,J2,Ew⟩
theorem C7 {t:Tr ((QC × List QR) × Nat)}{cl wm:List Nat}(ht:∀ g c n,dm t g=some (c,n)->ad Tryz.prog g c n) (hc:∀ g,fF g cl=true->∀ A c,ag Tryz.prog w0 g [.v (.slice A 0 c)] (.sl true [])):dv Tryz.prog w0 (J6 t cl wm) where
 seq:=fun t a b e h=>by
  have h:Ew t a b=some e:=h
  unfold Ew at h
  split at h
  ·rename_i p q ht ha hb
   rw [pI ha,pI hb,Nat.eq_of_beq_eq_true ht,<-Option.some.inj h]
   exact vQ _ _ _ _
  ·cases h
 key:=fun kt v es h he=>by
  have key:∀ kt v,Ev kt v=true->kt=104/\∃ q,nI v=some q:=fun kt v h=>by
   unfold Ev at h
   split at h
   ·rename_i p ht hv
    exact⟨Nat.eq_of_beq_eq_true ht,_,hv⟩
   ·cases h
  obtain⟨rfl,p,hp⟩:=key kt v h
  rw [pI hp]
  exact C5 _ _ _ fun q hq=>(key _ _ (he q hq)).2
 vC:=fun g v h hh first cap hp hk=>by
  have h:(match Nat.beq g 100 with|true=>some (AV.v (.int .i64 0))|false=>none)=some v:=h
  split at h
  ·rename_i e
   obtain rfl:=Option.some.inj h
   rw [Nat.eq_of_beq_eq_true e]
   exact Ex hp hk
  ·cases h
 o6:=ht
 ext:=fun g l r h=>by
  have h:Ey cl g l=some r:=h
  unfold Ey at h
  split at h
  ·rename_i hm
   split at h
   ·obtain rfl:=Option.some.inj h
    exact⟨ag.emp (hc g hm),.sl (fun row h=>by cases h),trivial⟩
   ·cases h
  ·cases h
 nat:=fun g l v h=>by cases h
end
end
section
set_option maxRecDepth 100000
noncomputable def Ez:{q:QC × List QR // ae Tryz.progTables Tryz.f12=some q}:=⟨_,by conv=>lhs;cbv⟩
theorem QQ:ad Tryz.prog 12 Ez.1 Tryz.f12.ntmps:=ad.of Tryz.func12 Ez.2 rfl rfl (by kernel_rfl) Tryz.call12
noncomputable def EA:{q:QC × List QR // ae Tryz.progTables Tryz.f28=some q}:=⟨_,by conv=>lhs;cbv⟩
theorem QS:ad Tryz.prog 28 EA.1 Tryz.f28.ntmps:=ad.of Tryz.func28 EA.2 rfl rfl (by kernel_rfl) Tryz.call28
noncomputable def EB:{q:QC × List QR // ae Tryz.progTables Tryz.f47=some q}:=⟨_,by conv=>lhs;cbv⟩
theorem QT:ad Tryz.prog 47 EB.1 Tryz.f47.ntmps:=ad.of Tryz.func47 EB.2 rfl rfl (by kernel_rfl) Tryz.call47
noncomputable def EC:{q:QC × List QR // ae Tryz.progTables Tryz.f61=some q}:=⟨_,by conv=>lhs;cbv⟩
theorem QU:ad Tryz.prog 61 EC.1 Tryz.f61.ntmps:=ad.of Tryz.func61 EC.2 rfl rfl (by kernel_rfl) Tryz.call61
noncomputable def ED:{q:QC × List QR // ae Tryz.progTables Tryz.f71=some q}:=⟨_,by conv=>lhs;cbv⟩
theorem QV:ad Tryz.prog 71 ED.1 Tryz.f71.ntmps:=ad.of Tryz.func71 ED.2 rfl rfl (by kernel_rfl) Tryz.call71
noncomputable def EE:{q:QC × List QR // ae Tryz.progTables Tryz.f77=some q}:=⟨_,by conv=>lhs;cbv⟩
theorem QW:ad Tryz.prog 77 EE.1 Tryz.f77.ntmps:=ad.of Tryz.func77 EE.2 rfl rfl (by kernel_rfl) Tryz.call77
noncomputable def zk:{q:QC × List QR // ae Tryz.progTables Tryz.f101=some q}:=⟨_,by conv=>lhs;cbv⟩
theorem LV:ad Tryz.prog 101 zk.1 Tryz.f101.ntmps:=ad.of Tryz.func101 zk.2 rfl rfl (by kernel_rfl) Tryz.call101
noncomputable def zl:{q:QC × List QR // ae Tryz.progTables Tryz.f111=some q}:=⟨_,by conv=>lhs;cbv⟩
theorem LW:ad Tryz.prog 111 zl.1 Tryz.f111.ntmps:=ad.of Tryz.func111 zl.2 rfl rfl (by kernel_rfl) Tryz.call111
noncomputable def zm:{q:QC × List QR // ae Tryz.progTables Tryz.f117=some q}:=⟨_,by conv=>lhs;cbv⟩
theorem LX:ad Tryz.prog 117 zm.1 Tryz.f117.ntmps:=ad.of Tryz.func117 zm.2 rfl rfl (by kernel_rfl) Tryz.call117
noncomputable def zn:{q:QC × List QR // ae Tryz.progTables Tryz.f140=some q}:=⟨_,by conv=>lhs;cbv⟩
theorem LY:ad Tryz.prog 140 zn.1 Tryz.f140.ntmps:=ad.of Tryz.func140 zn.2 rfl rfl (by kernel_rfl) Tryz.call140
noncomputable def zo:{q:QC × List QR // ae Tryz.progTables Tryz.f152=some q}:=⟨_,by conv=>lhs;cbv⟩
theorem LZ:ad Tryz.prog 152 zo.1 Tryz.f152.ntmps:=ad.of Tryz.func152 zo.2 rfl rfl (by kernel_rfl) Tryz.call152
noncomputable def zp:{q:QC × List QR // ae Tryz.progTables Tryz.f158=some q}:=⟨_,by conv=>lhs;cbv⟩
theorem L0:ad Tryz.prog 158 zp.1 Tryz.f158.ntmps:=ad.of Tryz.func158 zp.2 rfl rfl (by kernel_rfl) Tryz.call158
noncomputable def zq:{q:QC × List QR // ae Tryz.progTables Tryz.f168=some q}:=⟨_,by conv=>lhs;cbv⟩
theorem L4:ad Tryz.prog 168 zq.1 Tryz.f168.ntmps:=ad.of Tryz.func168 zq.2 rfl rfl (by kernel_rfl) Tryz.call168
noncomputable def zr:{q:QC × List QR // ae Tryz.progTables Tryz.f183=some q}:=⟨_,by conv=>lhs;cbv⟩
theorem L5:ad Tryz.prog 183 zr.1 Tryz.f183.ntmps:=ad.of Tryz.func183 zr.2 rfl rfl (by kernel_rfl) Tryz.call183
noncomputable def zt:{q:QC × List QR // ae Tryz.progTables Tryz.f189=some q}:=⟨_,by conv=>lhs;cbv⟩
theorem L6:ad Tryz.prog 189 zt.1 Tryz.f189.ntmps:=ad.of Tryz.func189 zt.2 rfl rfl (by kernel_rfl) Tryz.call189
noncomputable def zu:{q:QC × List QR // ae Tryz.progTables Tryz.f195=some q}:=⟨_,by conv=>lhs;cbv⟩
theorem L7:ad Tryz.prog 195 zu.1 Tryz.f195.ntmps:=ad.of Tryz.func195 zu.2 rfl rfl (by kernel_rfl) Tryz.call195
noncomputable def zw:{q:QC × List QR // ae Tryz.progTables Tryz.f203=some q}:=⟨_,by conv=>lhs;cbv⟩
theorem L8:ad Tryz.prog 203 zw.1 Tryz.f203.ntmps:=ad.of Tryz.func203 zw.2 rfl rfl (by kernel_rfl) Tryz.call203
noncomputable def zx:{q:QC × List QR // ae Tryz.progTables Tryz.f229=some q}:=⟨_,by conv=>lhs;cbv⟩
theorem L9:ad Tryz.prog 229 zx.1 Tryz.f229.ntmps:=ad.of Tryz.func229 zx.2 rfl rfl (by kernel_rfl) Tryz.call229
noncomputable def zy:{q:QC × List QR // ae Tryz.progTables Tryz.f236=some q}:=⟨_,by conv=>lhs;cbv⟩
theorem L_:ad Tryz.prog 236 zy.1 Tryz.f236.ntmps:=ad.of Tryz.func236 zy.2 rfl rfl (by kernel_rfl) Tryz.call236
noncomputable def zz:{q:QC × List QR // ae Tryz.progTables Tryz.f244=some q}:=⟨_,by conv=>lhs;cbv⟩
theorem Ma:ad Tryz.prog 244 zz.1 Tryz.f244.ntmps:=ad.of Tryz.func244 zz.2 rfl rfl (by kernel_rfl) Tryz.call244
noncomputable def zA:{q:QC × List QR // ae Tryz.progTables Tryz.f251=some q}:=⟨_,by conv=>lhs;cbv⟩
theorem Mb:ad Tryz.prog 251 zA.1 Tryz.f251.ntmps:=ad.of Tryz.func251 zA.2 rfl rfl (by kernel_rfl) Tryz.call251
noncomputable def zB:{q:QC × List QR // ae Tryz.progTables Tryz.f271=some q}:=⟨_,by conv=>lhs;cbv⟩
theorem Mc:ad Tryz.prog 271 zB.1 Tryz.f271.ntmps:=ad.of Tryz.func271 zB.2 rfl rfl (by kernel_rfl) Tryz.call271
noncomputable def zC:{q:QC × List QR // ae Tryz.progTables Tryz.f288=some q}:=⟨_,by conv=>lhs;cbv⟩
theorem Md:ad Tryz.prog 288 zC.1 Tryz.f288.ntmps:=ad.of Tryz.func288 zC.2 rfl rfl (by kernel_rfl) Tryz.call288
noncomputable def zD:{q:QC × List QR // ae Tryz.progTables Tryz.f298=some q}:=⟨_,by conv=>lhs;cbv⟩
theorem Me:ad Tryz.prog 298 zD.1 Tryz.f298.ntmps:=ad.of Tryz.func298 zD.2 rfl rfl (by kernel_rfl) Tryz.call298
noncomputable def zE:{q:QC × List QR // ae Tryz.progTables Tryz.f326=some q}:=⟨_,by conv=>lhs;cbv⟩
theorem Mf:ad Tryz.prog 326 zE.1 Tryz.f326.ntmps:=ad.of Tryz.func326 zE.2 rfl rfl (by kernel_rfl) Tryz.call326
noncomputable def zF:{q:QC × List QR // ae Tryz.progTables Tryz.f341=some q}:=⟨_,by conv=>lhs;cbv⟩
theorem Mg:ad Tryz.prog 341 zF.1 Tryz.f341.ntmps:=ad.of Tryz.func341 zF.2 rfl rfl (by kernel_rfl) Tryz.call341
noncomputable def zG:{q:QC × List QR // ae Tryz.progTables Tryz.f367=some q}:=⟨_,by conv=>lhs;cbv⟩
theorem Mh:ad Tryz.prog 367 zG.1 Tryz.f367.ntmps:=ad.of Tryz.func367 zG.2 rfl rfl (by kernel_rfl) Tryz.call367
noncomputable def zH:{q:QC × List QR // ae Tryz.progTables Tryz.f424=some q}:=⟨_,by conv=>lhs;cbv⟩
theorem Mi:ad Tryz.prog 424 zH.1 Tryz.f424.ntmps:=ad.of Tryz.func424 zH.2 rfl rfl (by kernel_rfl) Tryz.call424
end
section
set_option maxRecDepth 100000
noncomputable def EF:{q:QC × List QR // ae Tryz.progTables Tryz.f27=some q}:=⟨_,by conv=>lhs;cbv⟩
theorem QX:ad Tryz.prog 27 EF.1 Tryz.f27.ntmps:=ad.of Tryz.func27 EF.2 rfl rfl (by kernel_rfl) Tryz.call27
noncomputable def EG:{q:QC × List QR // ae Tryz.progTables Tryz.f46=some q}:=⟨_,by conv=>lhs;cbv⟩
theorem QY:ad Tryz.prog 46 EG.1 Tryz.f46.ntmps:=ad.of Tryz.func46 EG.2 rfl rfl (by kernel_rfl) Tryz.call46
noncomputable def EH:{q:QC × List QR // ae Tryz.progTables Tryz.f54=some q}:=⟨_,by conv=>lhs;cbv⟩
theorem QZ:ad Tryz.prog 54 EH.1 Tryz.f54.ntmps:=ad.of Tryz.func54 EH.2 rfl rfl (by kernel_rfl) Tryz.call54
noncomputable def EI:{q:QC × List QR // ae Tryz.progTables Tryz.f67=some q}:=⟨_,by conv=>lhs;cbv⟩
theorem Q0:ad Tryz.prog 67 EI.1 Tryz.f67.ntmps:=ad.of Tryz.func67 EI.2 rfl rfl (by kernel_rfl) Tryz.call67
noncomputable def EJ:{q:QC × List QR // ae Tryz.progTables Tryz.f76=some q}:=⟨_,by conv=>lhs;cbv⟩
theorem Q1:ad Tryz.prog 76 EJ.1 Tryz.f76.ntmps:=ad.of Tryz.func76 EJ.2 rfl rfl (by kernel_rfl) Tryz.call76
noncomputable def EK:{q:QC × List QR // ae Tryz.progTables Tryz.f89=some q}:=⟨_,by conv=>lhs;cbv⟩
theorem Q2:ad Tryz.prog 89 EK.1 Tryz.f89.ntmps:=ad.of Tryz.func89 EK.2 rfl rfl (by kernel_rfl) Tryz.call89
noncomputable def zI:{q:QC × List QR // ae Tryz.progTables Tryz.f110=some q}:=⟨_,by conv=>lhs;cbv⟩
theorem Mj:ad Tryz.prog 110 zI.1 Tryz.f110.ntmps:=ad.of Tryz.func110 zI.2 rfl rfl (by kernel_rfl) Tryz.call110
noncomputable def zJ:{q:QC × List QR // ae Tryz.progTables Tryz.f116=some q}:=⟨_,by conv=>lhs;cbv⟩
theorem Mk:ad Tryz.prog 116 zJ.1 Tryz.f116.ntmps:=ad.of Tryz.func116 zJ.2 rfl rfl (by kernel_rfl) Tryz.call116
noncomputable def zK:{q:QC × List QR // ae Tryz.progTables Tryz.f139=some q}:=⟨_,by conv=>lhs;cbv⟩
theorem Ml:ad Tryz.prog 139 zK.1 Tryz.f139.ntmps:=ad.of Tryz.func139 zK.2 rfl rfl (by kernel_rfl) Tryz.call139
noncomputable def zL:{q:QC × List QR // ae Tryz.progTables Tryz.f151=some q}:=⟨_,by conv=>lhs;cbv⟩
theorem Mm:ad Tryz.prog 151 zL.1 Tryz.f151.ntmps:=ad.of Tryz.func151 zL.2 rfl rfl (by kernel_rfl) Tryz.call151
noncomputable def zM:{q:QC × List QR // ae Tryz.progTables Tryz.f157=some q}:=⟨_,by conv=>lhs;cbv⟩
theorem Mn:ad Tryz.prog 157 zM.1 Tryz.f157.ntmps:=ad.of Tryz.func157 zM.2 rfl rfl (by kernel_rfl) Tryz.call157
noncomputable def zN:{q:QC × List QR // ae Tryz.progTables Tryz.f167=some q}:=⟨_,by conv=>lhs;cbv⟩
theorem Mo:ad Tryz.prog 167 zN.1 Tryz.f167.ntmps:=ad.of Tryz.func167 zN.2 rfl rfl (by kernel_rfl) Tryz.call167
noncomputable def zO:{q:QC × List QR // ae Tryz.progTables Tryz.f174=some q}:=⟨_,by conv=>lhs;cbv⟩
theorem Mp:ad Tryz.prog 174 zO.1 Tryz.f174.ntmps:=ad.of Tryz.func174 zO.2 rfl rfl (by kernel_rfl) Tryz.call174
noncomputable def zP:{q:QC × List QR // ae Tryz.progTables Tryz.f188=some q}:=⟨_,by conv=>lhs;cbv⟩
theorem Mq:ad Tryz.prog 188 zP.1 Tryz.f188.ntmps:=ad.of Tryz.func188 zP.2 rfl rfl (by kernel_rfl) Tryz.call188
noncomputable def zQ:{q:QC × List QR // ae Tryz.progTables Tryz.f194=some q}:=⟨_,by conv=>lhs;cbv⟩
theorem Mr:ad Tryz.prog 194 zQ.1 Tryz.f194.ntmps:=ad.of Tryz.func194 zQ.2 rfl rfl (by kernel_rfl) Tryz.call194
noncomputable def zR:{q:QC × List QR // ae Tryz.progTables Tryz.f202=some q}:=⟨_,by conv=>lhs;cbv⟩
theorem Ms:ad Tryz.prog 202 zR.1 Tryz.f202.ntmps:=ad.of Tryz.func202 zR.2 rfl rfl (by kernel_rfl) Tryz.call202
noncomputable def zS:{q:QC × List QR // ae Tryz.progTables Tryz.f228=some q}:=⟨_,by conv=>lhs;cbv⟩
theorem Mt:ad Tryz.prog 228 zS.1 Tryz.f228.ntmps:=ad.of Tryz.func228 zS.2 rfl rfl (by kernel_rfl) Tryz.call228
noncomputable def zT:{q:QC × List QR // ae Tryz.progTables Tryz.f235=some q}:=⟨_,by conv=>lhs;cbv⟩
theorem Mu:ad Tryz.prog 235 zT.1 Tryz.f235.ntmps:=ad.of Tryz.func235 zT.2 rfl rfl (by kernel_rfl) Tryz.call235
noncomputable def zU:{q:QC × List QR // ae Tryz.progTables Tryz.f243=some q}:=⟨_,by conv=>lhs;cbv⟩
theorem Mv:ad Tryz.prog 243 zU.1 Tryz.f243.ntmps:=ad.of Tryz.func243 zU.2 rfl rfl (by kernel_rfl) Tryz.call243
noncomputable def zV:{q:QC × List QR // ae Tryz.progTables Tryz.f250=some q}:=⟨_,by conv=>lhs;cbv⟩
theorem Mw:ad Tryz.prog 250 zV.1 Tryz.f250.ntmps:=ad.of Tryz.func250 zV.2 rfl rfl (by kernel_rfl) Tryz.call250
noncomputable def zW:{q:QC × List QR // ae Tryz.progTables Tryz.f270=some q}:=⟨_,by conv=>lhs;cbv⟩
theorem Mx:ad Tryz.prog 270 zW.1 Tryz.f270.ntmps:=ad.of Tryz.func270 zW.2 rfl rfl (by kernel_rfl) Tryz.call270
noncomputable def zX:{q:QC × List QR // ae Tryz.progTables Tryz.f277=some q}:=⟨_,by conv=>lhs;cbv⟩
theorem My:ad Tryz.prog 277 zX.1 Tryz.f277.ntmps:=ad.of Tryz.func277 zX.2 rfl rfl (by kernel_rfl) Tryz.call277
noncomputable def zY:{q:QC × List QR // ae Tryz.progTables Tryz.f297=some q}:=⟨_,by conv=>lhs;cbv⟩
theorem Mz:ad Tryz.prog 297 zY.1 Tryz.f297.ntmps:=ad.of Tryz.func297 zY.2 rfl rfl (by kernel_rfl) Tryz.call297
noncomputable def zZ:{q:QC × List QR // ae Tryz.progTables Tryz.f324=some q}:=⟨_,by conv=>lhs;cbv⟩
theorem MA:ad Tryz.prog 324 zZ.1 Tryz.f324.ntmps:=ad.of Tryz.func324 zZ.2 rfl rfl (by kernel_rfl) Tryz.call324
noncomputable def z0:{q:QC × List QR // ae Tryz.progTables Tryz.f338=some q}:=⟨_,by conv=>lhs;cbv⟩
theorem MB:ad Tryz.prog 338 z0.1 Tryz.f338.ntmps:=ad.of Tryz.func338 z0.2 rfl rfl (by kernel_rfl) Tryz.call338
noncomputable def z3:{q:QC × List QR // ae Tryz.progTables Tryz.f366=some q}:=⟨_,by conv=>lhs;cbv⟩
theorem MC:ad Tryz.prog 366 z3.1 Tryz.f366.ntmps:=ad.of Tryz.func366 z3.2 rfl rfl (by kernel_rfl) Tryz.call366
noncomputable def z4:{q:QC × List QR // ae Tryz.progTables Tryz.f404=some q}:=⟨_,by conv=>lhs;cbv⟩
theorem MD:ad Tryz.prog 404 z4.1 Tryz.f404.ntmps:=ad.of Tryz.func404 z4.2 rfl rfl (by kernel_rfl) Tryz.call404
end
end Go.Proofs.YtbofilglphfceaaGreat
