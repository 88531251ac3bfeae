import Derived.RecoverIn
import Derived.TacticsIn
import Derived.TacticsInMore
import Derived.Test.YtgjfgekaclobaaaGreatProg
import Derived.Test.YtgjfgekaclobaaaGreatCa43
namespace Go.Proofs.YtgjfgekaclobaaaGreat
set_option linter.unusedVariables false
set_option linter.unusedSimpArgs false
open Go.RowKit
section
set_option maxRecDepth 100000
def PG:List UInt8->List UInt8->Bool
 |[],[]=>true
 |a::l,b::m=>match Nat.beq a.toNat b.toNat with|true=>PG l m|false=>false
 |_,_=>false
theorem Hn:∀ {a b:List UInt8},PG a b=(a == b)
 |[],[]=>rfl
 |[],_::_=>rfl
 |_::_,[]=>rfl
 |a::l,b::m=>by
  simp only [PG,List.cons_beq_cons]
  rw [Hn (a:=l)]
  cases h:Nat.beq a.toNat b.toNat with
  |true =>
   have:a=b:=UInt8.toNat_inj.1 (Nat.eq_of_beq_eq_true h)
   simp [this]
  |false =>
   have:¬ a=b:=fun e=>by rw [e,Nat.beq_refl] at h;cases h
   simp [this]
def Ho (m n:ByteArray) (i j:Int):Bool:=match PG m.data.toList n.data.toList with|true=>decide (i=j)|false=>false
theorem YE {m n:ByteArray}{i j:Int}:Ho m n i j=(m.toList == n.toList && i == j):=by
 unfold Ho
 rw [Hn,<-ByteArray.toList_eq,<-ByteArray.toList_eq]
 cases m.toList == n.toList with
 |true=>by_cases h:i=j<;>simp [h]
 |false=>rfl
def vJ:Value->Option (ByteArray × Int)
 |.agg a=>match a.toList with
  |[.string m,.int .i64 i]=>some (m,i)
  |_=>none
 |_=>none
theorem y0 {v:Value}{p:ByteArray × Int}(h:vJ v=some p):v=.agg #[.string p.1,.int .i64 p.2]:=by
 unfold vJ at h
 split at h
 ·rename_i a
  split at h
  ·rename_i m i e
   obtain rfl:=oJ_ h
   rw [<-Array.toArray_toList (xs:=a),e]
  ·cases h
 ·cases h
def Sc (kt:Nat) (v:Value):Bool:=match Nat.beq kt 77,vJ v with
 |true,some _=>true
 |_,_=>false
def abH (v w:Value):Bool:=match vJ v,vJ w with
 |some p,some q=>Ho p.1 q.1 p.2 q.2
 |_,_=>false
def Sd (t:Nat) (v w:Value):Option Bool:=match Nat.beq t 77,vJ v,vJ w with
 |true,some p,some q=>some (Ho p.1 q.1 p.2 q.2)
 |_,_,_=>none
section
variable {w0:World}
theorem Hp (n n':ByteArray) (i i':Int):OB Tryz.prog 77 (.agg #[.string n,.int .i64 i]) (.agg #[.string n',.int .i64 i']) (Ho n n' i i'):=by
 rw [YE]
 refine⟨⟨_,_,rfl,rfl⟩,by kernel_rfl,fun w=>?_⟩
 have hS:Tryz.prog.underlying 77=some (.struct (Tryz.prog.fieldsOf 77)):=by kernel_rfl
 have hp:Tryz.prog.stoodInHeld 77=false:=by kernel_rfl
 have u3:=Tryz.underlying3
 have u9:=Tryz.underlying9
 have a3:=Tryz.isAgg3
 have a9:=Tryz.isAgg9
 rw [run_eql_struct,show (10000:Nat)=9998+1+1 from rfl,run_equalIn_agg w _ 77 _ _ hS hp]
 simp only [Program.fieldsOf,Tryz.underlying77]
 have e1:∀ w,(Op.equalIn (9998+1) 9 (.string n) (.string n')).run Tryz.prog w=.ok (n.toList == n'.toList) w:=fun w=>run_equalIn_string w _ _ _ _ u9
 have e2:∀ w,(Op.equalIn (9998+1) 3 (.int .i64 i) (.int .i64 i')).run Tryz.prog w=.ok (i == i') w:=fun w=>run_equalIn_int w _ _ _ _ _ _ u3
 cases h1:(n.toList == n'.toList)<;>cases h2:(i == i')<;>simp [Op.eqFields,part,a3,a9,e1,e2,h1,h2]
theorem YF {X:Result Bool}{e:Bool}{w:World}(h:(X.andThen fun b w'=>Result.ok (Value.bool b) w')=.ok (.bool e) w):X=.ok e w:=by
 cases X with
 |ok b w' =>
  simp only [Result.andThen,Result.ok.injEq,Value.bool.injEq] at h
  rw [h.1,h.2]
 |_=>cases h
theorem PH (n:ByteArray) (i:Int) (es:List (Value × AV)) (hes:∀ p ∈ es,∃ q,vJ p.1=some q):xl Tryz.prog 77 (.agg #[.string n,.int .i64 i]) es (abH (.agg #[.string n,.int .i64 i])):=by
 have hS:Tryz.prog.underlying 77=some (.struct (Tryz.prog.fieldsOf 77)):=by kernel_rfl
 have u3:=Tryz.underlying3
 have u9:=Tryz.underlying9
 have a3:=Tryz.isAgg3
 have a9:=Tryz.isAgg9
 refine⟨fun b w=>?_,⟨_,hS⟩,fun p hp w=>?_⟩
 ·have key:∀ q:Nat,(Instr.checkKey b (q+1+1) 77 (.agg #[.string n,.int .i64 i])).run Tryz.prog w=.ok () w:=by
   intro q
   have e1:∀ w,(Instr.checkKey b (q+1) 9 (.string n)).run Tryz.prog w=.ok () w:=fun w=>by
    rw [Instr.checkKey]
    simp only [Sem.run_bind,run_underlying u9,Result.andThen_ok,Sem.run_pure]
   have e2:∀ w,(Instr.checkKey b (q+1) 3 (.int .i64 i)).run Tryz.prog w=.ok () w:=fun w=>by
    rw [Instr.checkKey]
    simp only [Sem.run_bind,run_underlying u3,Result.andThen_ok,Sem.run_pure]
   rw [Instr.checkKey]
   simp only [Sem.run_bind,run_underlying hS,Result.andThen_ok]
   simp only [Program.fieldsOf,Tryz.underlying77]
   simp [part,a3,a9,e1,e2]
  exact key 9998
 ·obtain⟨⟨n',i'⟩,hq⟩:=hes p hp
  have e:=y0 hq
  have h:=(Hp n n' i i').2.2 w
  rw [run_eql_struct] at h
  have h2:=YF h
  rw [e]
  exact h2
theorem YG {F:Fence}(hF:gU F) (n:Nat) (p:Addr) (w:World):CallsDIn F.plain n Tryz.prog 200 #[.pointer (some p)] .returning w fun e u' w'=>e=.returned (.tuple #[])/\u'=.returning/\w'=w:=by
 refine callsDIn_of_wpSIn Tryz.func200 rfl (hF.1 _) fun Kp cs hu=>?_
 simp only [Tryz.ntmps200,List.size_toArray,List.length_cons,List.length_nil,Nat.reduceAdd,Nat.reduceSub,Array.replicate_succ,Array.replicate_zero,List.push_toArray,List.append_toArray,List.nil_append,List.cons_append]
 apply wpSIn_seq
 apply wpSIn_region
 simp [wpOpsSIn,go_sem,recoverD,hu,Exit.thenS,hF.1]
 refine wpSIn_of_wpIn rfl ?_
 refine wpIn_block (wpIn_seq (wpIn_region ?_))
 simp [wpOpsIn,go_sem]
 refine wpIn_cond (t:=true) (by simp [Act.eval]) ?_
 simp only [if_true]
 refine wpIn_region ?_
 simp [wpOpsIn,go_sem,bodyPostS,results,Tryz.results200,Exit.inBlock]
 cases Kp
 simp_all
def abI (a e:Int):ad:=(jh ad.none_ [AV.v (.int .i64 a)]).2.set 0 (some (.arr 1 [[AV.v (.int .i64 e)]] 0 true))
theorem PI {A:Nat->Prop}{g2:Gh}{S:ad}{w2:World}{a e:Int}{b:Nat}(ld:St w0 A g2 S w2) (h0:S.get 0=some (.arr 1 [[AV.v (.int .i64 a)]] 0 true)) (hk:g2.al 0) (iI:g2.ob 0=b) :
  w2.cell? ⟨b,0,none⟩=some (.int .i64 a)/\w2.frozen? ⟨b,0,none⟩=false/\b < w2.heap.size/\Ext A g2 w2 g2 (w2.setCell ⟨b,0,none⟩ (.int .i64 e))/\St w0 A g2 (S.set 0 (some (.arr 1 [[AV.v (.int .i64 e)]] 0 true))) (w2.setCell ⟨b,0,none⟩ (.int .i64 e)):=by
 obtain⟨k2,k3,cells,ty,p1,p2,p3,p4,p5,p6,p7⟩:=ld.bR 0 _ h0 hk
 rw [iI] at k2 k3 p1
 obtain⟨x,iM,cg⟩:=(p5 0 _ rfl).2 0 _ rfl
 have cg:=bO cg
 subst cg
 have hc:w2.cell? ⟨b,0,none⟩=some (.int .i64 a):=by rw [cell_of_row w2 b _ cells ty (0,0) p1];simpa using iM
 have hz:w2.frozen? ⟨b,0,none⟩=false:=by simp [World.frozen?,p1]
 have lr:lu Tryz.prog S 45 (AV.v (.int .i64 e)) (.pt 0 1 0 0)=some (S.set 0 (some (.arr 1 [[AV.v (.int .i64 e)]] 0 true))):=by
  have:cP Tryz.prog 45=some 1:=by kernel_rfl
  simp only [lu,h0,this]
  rfl
 have oG:aH g2 w2 (.pt 0 1 0 0) (.pointer (some ⟨b,0,none⟩)):=by
  have:=aH.pt (g:=g2) (w:=w2) (k:=0) (sz:=1) (i:=0) (j:=0) hk
  rw [iI] at this
  exact this
 obtain⟨c,o,w',e1,e2,_,e4,e5⟩:=rQ ld lr oG (x:=.int .i64 e) .v
 simp only [Value.pointer.injEq,oI_,Addr.mk.injEq,and_true] at e1
 obtain⟨rfl,rfl⟩:=e1
 have bY:(storeVar 45 ⟨b,0,none⟩ (.int .i64 e)).run Tryz.prog w2=.ok () (w2.setCell ⟨b,0,none⟩ (.int .i64 e)):=by simp [go_sem,hc,hz]
 rw [bY] at e2
 injection e2 with _ e2
 subst e2
 exact⟨hc,hz,k3,e4,e5⟩
theorem Se {g:FuncId}{fs cs:List AV}(hp:dm (fs++cs)) (h:ah Tryz.prog w0 g (fs++cs) (.aE [])):ah Tryz.prog w0 131 [.fn (.func g) fs cs] (AV.v (.int .i64 0)):=by
 refine⟨.v,abI 0 0,Tryz.call131,fun F m A gh aQ w hF hS hA=>?_⟩
 obtain⟨bh,zl⟩:=hA
 obtain⟨fv,rfl⟩:∃ fv,aQ=#[fv]:=by
  obtain⟨l⟩:=aQ
  match l,bh with
  |[x],_=>exact⟨x,rfl⟩
 obtain⟨us,bs,rfl,iK,kD⟩:=tS (zl 0 _ _ rfl rfl)
 clear zl bh
 have xC:=uo (w0:=w0) (A:=A) (cs:=[AV.v (.int .i64 0)]) (cells:=#[.int .i64 0]) (ty:=45) hS ⟨rfl,fun i a x h1 h2=>by
  match i,h1,h2 with
  |0,h1,h2=>obtain rfl:=oJ_ h1;obtain rfl:=oJ_ h2;exact .v⟩
 obtain⟨w1,sI⟩:∃ w1:World,w1=w.alloc (.cells #[.int .i64 0] 45):=⟨_,rfl⟩
 rw [<-sI] at xC
 obtain⟨g1,D7,eT,ko⟩:=xC
 have oW:iP g1 w1 (fs++cs) (us++bs):=by
  have:=gM iK kD
  exact⟨this.1,fun i a x h1 h2=>(this.2 i a x h1 h2).later ko.toLater⟩
 have bC:=(h.zW hp (jh ad.none_ [AV.v (.int .i64 0)]).2).2 F.plain (m - 1) A g1 (us++bs) w1 hF.plain eT oW
 have key:CallsIn F.plain m Tryz.prog 131 #[.func (.func g) us bs] w fun e w'=>∃ v g',e=.returned v/\aH g' w' (AV.v (.int .i64 0)) v/\St w0 A g' (abI 0 0) w'/\Ext A gh w g' w':=by
  refine callsIn_of_wp_defers Tryz.func131 rfl (hF.1 _) ?_ rfl
  simp only [Tryz.ntmps131,List.size_toArray,List.length_cons,List.length_nil,Nat.reduceAdd,Nat.reduceSub,Array.replicate_succ,Array.replicate_zero,List.push_toArray,List.append_toArray,List.nil_append,List.cons_append]
  refine wpIn_seq (wpIn_region ?_)
  simp [wpOpsIn,go_sem]
  rw [<-sI]
  have pP:∀ (fn:Fn) (first cap:Array Value) (w:World),(Instr.makeFunc fn first cap).run Tryz.prog w=.ok (.func fn first cap) w:=fun _ _ _ _=>rfl
  refine wpIn_seq (wpIn_region ?_)
  simp [wpOpsIn,go_sem,pP]
  refine wpIn_seq (wpIn_region ?_)
  simp [wpOpsIn,go_sem]
  refine⟨hF.1 g,?_⟩
  rw [(h.zW hp ad.none_).1 (us++bs) w1,Oper.uponIn_enter]
  refine⟨fun hd=>(by rw [show F.plain.depth=F.depth from rfl,hF.2.1] at hd;cases hd),bC.mono ?_⟩
  rintro e w2 ⟨v,g2,rfl,_,ld,pQ⟩
  simp only
  obtain⟨dN,jO⟩:g1.al 0/\g1.ob 0=w.heap.size:=by
   generalize hv:Value.pointer (some ⟨w.heap.size,0,none⟩)=y at D7
   cases D7 with
   |pt hk=>simp [jh,ad.none_] at hv;exact⟨hk,hv.symm⟩
  have eh:=pQ.al 0 dN
  have xD:g2.ob 0=w.heap.size:=(pQ.ob 0 dN).trans jO
  obtain⟨hc,hz,aA,qx,qw⟩:=PI (e:=0) ld rfl eh xD
  refine wpIn_seq (wpIn_region ?_)
  simp [wpOpsIn,go_sem,hc,hz]
  refine wpIn_ret ?_
  refine leavesIn_cons (f:=200) (args:=#[.pointer (some ⟨w.heap.size,0,none⟩)]) (by simp) (fun hd=>(by rw [show F.plain.depth=F.depth from rfl,hF.2.1] at hd;cases hd)) (by simp [go_sem]) (fun g hg=>hF.1 g) ?_
  refine (YG hF _ _ _).mono ?_
  rintro e u' jX ⟨rfl,rfl,rfl⟩
  have Bb:(w2.setCell ⟨w.heap.size,0,none⟩ (.int .i64 0)).cell? ⟨w.heap.size,0,none⟩=some (.int .i64 0):=(PI (e:=0) qw rfl eh xD).1
  simp [LeavesIn,settle,results,Tryz.results131,go_sem,Bb]
  exact⟨g2,.v,qw,(ko.trans pQ).trans qx⟩
 exact key
def Hq (cl:List Nat) (g:Nat) (l:List AV):Option AV:=match jS g cl with
 |true=>match l with
  |[.sl _ []]=>some (.sl true [])
  |_=>none
 |false=>none
def mkE (t:Tr ((QC × List QR) × Nat)) (cl wm:List Nat):Env:=⟨fun g=>ft t g,
 Hq cl,
 fun _ _=>none,fun g=>match Nat.beq g 131 with|true=>some (.v (.int .i64 0))|false=>none,fun g=>jS g wm,Sc,abH,Sd,fun _=>none,fun _=>false⟩
theorem sj {t:Tr ((QC × List QR) × Nat)}{cl wm:List Nat}(ht:∀ g c n,ft t g=some (c,n)->af Tryz.prog g c n) (hc:∀ g,jS g cl=true->∀ A c,ah Tryz.prog w0 g [.v (.slice A 0 c)] (.sl true [])):fR Tryz.prog w0 (mkE t cl wm) where
 seq:=fun t a b e h=>by
  have h:Sd t a b=some e:=h
  unfold Sd at h
  split at h
  ·rename_i p q ht ha hb
   rw [y0 ha,y0 hb,Nat.eq_of_beq_eq_true ht,<-oJ_ h]
   exact Hp _ _ _ _
  ·cases h
 key:=fun kt v es h he=>by
  have key:∀ kt v,Sc kt v=true->kt=77/\∃ q,vJ v=some q:=fun kt v h=>by
   unfold Sc at h
   split at h
   ·rename_i p ht hv
    exact⟨Nat.eq_of_beq_eq_true ht,_,hv⟩
   ·cases h
  obtain⟨rfl,p,hp⟩:=key kt v h
  rw [y0 hp]
  exact PH _ _ _ fun q hq=>(key _ _ (he q hq)).2
 B_:=fun g v h hh first cap hp hk=>by
  have h:(match Nat.beq g 131 with|true=>some (AV.v (.int .i64 0))|false=>none)=some v:=h
  split at h
  ·rename_i e
   obtain rfl:=oJ_ h
   rw [Nat.eq_of_beq_eq_true e]
   exact Se hp hk
  ·cases h
 uI:=ht
 ext:=fun g l r h=>by
  have h:Hq cl g l=some r:=h
  unfold Hq at h
  split at h
  ·rename_i hm
   split at h
   ·obtain rfl:=oJ_ h
    exact⟨ah.emp (hc g hm),.sl (fun row h=>by cases h),trivial⟩
   ·cases h
  ·cases h
 nat:=fun g l v h=>by cases h
end
end
section
set_option maxRecDepth 100000
def uA:AV:=.sl false [[.v (.int .i64 1),.v (.int .i64 0),.v (.string ⟨#[]⟩),.sl false []]]
def uB:AV:=.sl false [[.v (.int .i64 1),.v (.int .i64 1),.v (.string ⟨#[]⟩),.sl false []]]
def uR:AV:=.aE [.sl false [[.v (.int .i64 1),.v (.int .i64 1),.v (.int .i64 0),.v (.string ⟨#[]⟩),.sl false []]],.v (.int .i64 0)]
theorem Jt:Pure uA/\Pure uB:=by
 have:∀ i,Pure (.sl false [[.v (.int .i64 1),.v (.int .i64 i),.v (.string ⟨#[]⟩),.sl false []]]):=fun i=>by
  refine .sl fun row hr a ha=>?_
  obtain rfl:=List.mem_singleton.1 hr
  simp only [List.mem_cons,List.not_mem_nil,or_false] at ha
  rcases ha with rfl|rfl|rfl|rfl
  ·exact .v
  ·exact .v
  ·exact .v
  ·exact .sl fun row h=>by cases h
 exact⟨this _,this _⟩
def Sf (g:Nat) (l:List AV):Option AV:=match Nat.beq g 292,l with
 |true,[a,b]=>match AI 9 a uA,AI 9 b uB with
  |true,true=>some uR
  |_,_=>none
 |_,_=>none
def mkU (t:Tr ((QC × List QR) × Nat)) (cl wm:List Nat):Env:={ mkE t cl wm with
 ext:=fun g l=>match Hq cl g l with|some r=>some r|none=>Sf g l
 sp:=fun g=>match Nat.beq g 355 with|true=>some 1|false=>none
 fx:=fun g=>Nat.beq g 292 }
section
variable {w0:World}
theorem abK {t:Tr ((QC × List QR) × Nat)}{cl wm:List Nat}(ht:∀ g c n,ft t g=some (c,n)->af Tryz.prog g c n) (hc:∀ g,jS g cl=true->∀ A c,ah Tryz.prog w0 g [.v (.slice A 0 c)] (.sl true [])) (hu:ah Tryz.prog w0 292 [uA,uB] uR):fR Tryz.prog w0 (mkU t cl wm) where
 seq:=(sj (wm:=wm) ht hc).seq
 key:=(sj (wm:=wm) ht hc).key
 B_:=(sj (wm:=wm) ht hc).B_
 uI:=(sj (wm:=wm) ht hc).uI
 nat:=(sj (wm:=wm) ht hc).nat
 ext:=fun g l r h=>by
  have h:(match Hq cl g l with|some r=>some r|none=>Sf g l)=some r:=h
  split at h
  ·rename_i r' he
   obtain rfl:=oJ_ h
   exact (sj (wm:=wm) ht hc).ext g l r' he
  ·unfold Sf at h
   split at h
   ·rename_i hg a b
    split at h
    ·rename_i ha hb
     obtain rfl:=oJ_ h
     have hg:=Nat.eq_of_beq_eq_true (by assumption)
     rw [hg,uG _ _ ha,uG _ _ hb]
     exact⟨hu,Jt.1,Jt.2,trivial⟩
    ·cases h
   ·cases h
end
end
section
set_option maxRecDepth 100000
noncomputable def Sg:GQ_ Tryz.f11:=⟨_,by conv=>lhs;cbv⟩
theorem aku:af Tryz.prog 11 Sg.1 Tryz.f11.ntmps:=gW_ Tryz.func11 Sg.2 Tryz.call11
noncomputable def Sh:GQ_ Tryz.f33:=⟨_,by conv=>lhs;cbv⟩
theorem akv:af Tryz.prog 33 Sh.1 Tryz.f33.ntmps:=gW_ Tryz.func33 Sh.2 Tryz.call33
noncomputable def Si:GQ_ Tryz.f41:=⟨_,by conv=>lhs;cbv⟩
theorem akw:af Tryz.prog 41 Si.1 Tryz.f41.ntmps:=gW_ Tryz.func41 Si.2 Tryz.call41
noncomputable def Sj:GQ_ Tryz.f67:=⟨_,by conv=>lhs;cbv⟩
theorem akx:af Tryz.prog 67 Sj.1 Tryz.f67.ntmps:=gW_ Tryz.func67 Sj.2 Tryz.call67
noncomputable def Sk:GQ_ Tryz.f73:=⟨_,by conv=>lhs;cbv⟩
theorem aky:af Tryz.prog 73 Sk.1 Tryz.f73.ntmps:=gW_ Tryz.func73 Sk.2 Tryz.call73
noncomputable def Sl:GQ_ Tryz.f82:=⟨_,by conv=>lhs;cbv⟩
theorem akz:af Tryz.prog 82 Sl.1 Tryz.f82.ntmps:=gW_ Tryz.func82 Sl.2 Tryz.call82
noncomputable def Sm:GQ_ Tryz.f92:=⟨_,by conv=>lhs;cbv⟩
theorem akA:af Tryz.prog 92 Sm.1 Tryz.f92.ntmps:=gW_ Tryz.func92 Sm.2 Tryz.call92
noncomputable def K3:GQ_ Tryz.f115:=⟨_,by conv=>lhs;cbv⟩
theorem ael:af Tryz.prog 115 K3.1 Tryz.f115.ntmps:=gW_ Tryz.func115 K3.2 Tryz.call115
noncomputable def K4:GQ_ Tryz.f134:=⟨_,by conv=>lhs;cbv⟩
theorem aem:af Tryz.prog 134 K4.1 Tryz.f134.ntmps:=gW_ Tryz.func134 K4.2 Tryz.call134
noncomputable def K5:GQ_ Tryz.f143:=⟨_,by conv=>lhs;cbv⟩
theorem aen:af Tryz.prog 143 K5.1 Tryz.f143.ntmps:=gW_ Tryz.func143 K5.2 Tryz.call143
noncomputable def K6:GQ_ Tryz.f154:=⟨_,by conv=>lhs;cbv⟩
theorem aeo:af Tryz.prog 154 K6.1 Tryz.f154.ntmps:=gW_ Tryz.func154 K6.2 Tryz.call154
noncomputable def K7:GQ_ Tryz.f178:=⟨_,by conv=>lhs;cbv⟩
theorem aep:af Tryz.prog 178 K7.1 Tryz.f178.ntmps:=gW_ Tryz.func178 K7.2 Tryz.call178
noncomputable def K8:GQ_ Tryz.f184:=⟨_,by conv=>lhs;cbv⟩
theorem aeq:af Tryz.prog 184 K8.1 Tryz.f184.ntmps:=gW_ Tryz.func184 K8.2 Tryz.call184
noncomputable def K9:GQ_ Tryz.f204:=⟨_,by conv=>lhs;cbv⟩
theorem aer:af Tryz.prog 204 K9.1 Tryz.f204.ntmps:=gW_ Tryz.func204 K9.2 Tryz.call204
noncomputable def K_:GQ_ Tryz.f210:=⟨_,by conv=>lhs;cbv⟩
theorem aes:af Tryz.prog 210 K_.1 Tryz.f210.ntmps:=gW_ Tryz.func210 K_.2 Tryz.call210
noncomputable def La:GQ_ Tryz.f217:=⟨_,by conv=>lhs;cbv⟩
theorem aet:af Tryz.prog 217 La.1 Tryz.f217.ntmps:=gW_ Tryz.func217 La.2 Tryz.call217
noncomputable def Lb:GQ_ Tryz.f227:=⟨_,by conv=>lhs;cbv⟩
theorem aeu:af Tryz.prog 227 Lb.1 Tryz.f227.ntmps:=gW_ Tryz.func227 Lb.2 Tryz.call227
noncomputable def Lc:GQ_ Tryz.f253:=⟨_,by conv=>lhs;cbv⟩
theorem aev:af Tryz.prog 253 Lc.1 Tryz.f253.ntmps:=gW_ Tryz.func253 Lc.2 Tryz.call253
noncomputable def Ld:GQ_ Tryz.f259:=⟨_,by conv=>lhs;cbv⟩
theorem aew:af Tryz.prog 259 Ld.1 Tryz.f259.ntmps:=gW_ Tryz.func259 Ld.2 Tryz.call259
noncomputable def Le:GQ_ Tryz.f265:=⟨_,by conv=>lhs;cbv⟩
theorem aex:af Tryz.prog 265 Le.1 Tryz.f265.ntmps:=gW_ Tryz.func265 Le.2 Tryz.call265
noncomputable def Lf:GQ_ Tryz.f282:=⟨_,by conv=>lhs;cbv⟩
theorem aey:af Tryz.prog 282 Lf.1 Tryz.f282.ntmps:=gW_ Tryz.func282 Lf.2 Tryz.call282
noncomputable def Lg:GQ_ Tryz.f291:=⟨_,by conv=>lhs;cbv⟩
theorem aez:af Tryz.prog 291 Lg.1 Tryz.f291.ntmps:=gW_ Tryz.func291 Lg.2 Tryz.call291
noncomputable def Lh:GQ_ Tryz.f309:=⟨_,by conv=>lhs;cbv⟩
theorem aeA:af Tryz.prog 309 Lh.1 Tryz.f309.ntmps:=gW_ Tryz.func309 Lh.2 Tryz.call309
noncomputable def Li:GQ_ Tryz.f315:=⟨_,by conv=>lhs;cbv⟩
theorem aeB:af Tryz.prog 315 Li.1 Tryz.f315.ntmps:=gW_ Tryz.func315 Li.2 Tryz.call315
noncomputable def Lj:GQ_ Tryz.f323:=⟨_,by conv=>lhs;cbv⟩
theorem aeC:af Tryz.prog 323 Lj.1 Tryz.f323.ntmps:=gW_ Tryz.func323 Lj.2 Tryz.call323
noncomputable def Lk:GQ_ Tryz.f334:=⟨_,by conv=>lhs;cbv⟩
theorem aeD:af Tryz.prog 334 Lk.1 Tryz.f334.ntmps:=gW_ Tryz.func334 Lk.2 Tryz.call334
noncomputable def Ll:GQ_ Tryz.f349:=⟨_,by conv=>lhs;cbv⟩
theorem aeE:af Tryz.prog 349 Ll.1 Tryz.f349.ntmps:=gW_ Tryz.func349 Ll.2 Tryz.call349
noncomputable def Lm:GQ_ Tryz.f355:=⟨_,by conv=>lhs;cbv⟩
theorem aeF:af Tryz.prog 355 Lm.1 Tryz.f355.ntmps:=gW_ Tryz.func355 Lm.2 Tryz.call355
noncomputable def Ln:GQ_ Tryz.f389:=⟨_,by conv=>lhs;cbv⟩
theorem aeG:af Tryz.prog 389 Ln.1 Tryz.f389.ntmps:=gW_ Tryz.func389 Ln.2 Tryz.call389
noncomputable def Lo:GQ_ Tryz.f415:=⟨_,by conv=>lhs;cbv⟩
theorem aeH:af Tryz.prog 415 Lo.1 Tryz.f415.ntmps:=gW_ Tryz.func415 Lo.2 Tryz.call415
noncomputable def Lp:GQ_ Tryz.f444:=⟨_,by conv=>lhs;cbv⟩
theorem aeI:af Tryz.prog 444 Lp.1 Tryz.f444.ntmps:=gW_ Tryz.func444 Lp.2 Tryz.call444
end
section
set_option maxRecDepth 100000
noncomputable def Sn:GQ_ Tryz.f15:=⟨_,by conv=>lhs;cbv⟩
theorem akB:af Tryz.prog 15 Sn.1 Tryz.f15.ntmps:=gW_ Tryz.func15 Sn.2 Tryz.call15
noncomputable def Sp:GQ_ Tryz.f34:=⟨_,by conv=>lhs;cbv⟩
theorem akC:af Tryz.prog 34 Sp.1 Tryz.f34.ntmps:=gW_ Tryz.func34 Sp.2 Tryz.call34
noncomputable def Sq:GQ_ Tryz.f49:=⟨_,by conv=>lhs;cbv⟩
theorem akD:af Tryz.prog 49 Sq.1 Tryz.f49.ntmps:=gW_ Tryz.func49 Sq.2 Tryz.call49
noncomputable def Sr:GQ_ Tryz.f68:=⟨_,by conv=>lhs;cbv⟩
theorem akE:af Tryz.prog 68 Sr.1 Tryz.f68.ntmps:=gW_ Tryz.func68 Sr.2 Tryz.call68
noncomputable def Ss:GQ_ Tryz.f75:=⟨_,by conv=>lhs;cbv⟩
theorem akF:af Tryz.prog 75 Ss.1 Tryz.f75.ntmps:=gW_ Tryz.func75 Ss.2 Tryz.call75
noncomputable def Su:GQ_ Tryz.f83:=⟨_,by conv=>lhs;cbv⟩
theorem akG:af Tryz.prog 83 Su.1 Tryz.f83.ntmps:=gW_ Tryz.func83 Su.2 Tryz.call83
noncomputable def Sv:GQ_ Tryz.f93:=⟨_,by conv=>lhs;cbv⟩
theorem akH:af Tryz.prog 93 Sv.1 Tryz.f93.ntmps:=gW_ Tryz.func93 Sv.2 Tryz.call93
noncomputable def Lq:GQ_ Tryz.f116:=⟨_,by conv=>lhs;cbv⟩
theorem aeJ:af Tryz.prog 116 Lq.1 Tryz.f116.ntmps:=gW_ Tryz.func116 Lq.2 Tryz.call116
noncomputable def Lr:GQ_ Tryz.f135:=⟨_,by conv=>lhs;cbv⟩
theorem aeK:af Tryz.prog 135 Lr.1 Tryz.f135.ntmps:=gW_ Tryz.func135 Lr.2 Tryz.call135
noncomputable def Ls:GQ_ Tryz.f145:=⟨_,by conv=>lhs;cbv⟩
theorem aeL:af Tryz.prog 145 Ls.1 Tryz.f145.ntmps:=gW_ Tryz.func145 Ls.2 Tryz.call145
noncomputable def Lt:GQ_ Tryz.f155:=⟨_,by conv=>lhs;cbv⟩
theorem aeM:af Tryz.prog 155 Lt.1 Tryz.f155.ntmps:=gW_ Tryz.func155 Lt.2 Tryz.call155
noncomputable def Lu:GQ_ Tryz.f179:=⟨_,by conv=>lhs;cbv⟩
theorem aeN:af Tryz.prog 179 Lu.1 Tryz.f179.ntmps:=gW_ Tryz.func179 Lu.2 Tryz.call179
noncomputable def Lv:GQ_ Tryz.f185:=⟨_,by conv=>lhs;cbv⟩
theorem aeO:af Tryz.prog 185 Lv.1 Tryz.f185.ntmps:=gW_ Tryz.func185 Lv.2 Tryz.call185
noncomputable def Lw:GQ_ Tryz.f205:=⟨_,by conv=>lhs;cbv⟩
theorem aeP:af Tryz.prog 205 Lw.1 Tryz.f205.ntmps:=gW_ Tryz.func205 Lw.2 Tryz.call205
noncomputable def Lx:GQ_ Tryz.f211:=⟨_,by conv=>lhs;cbv⟩
theorem aeQ:af Tryz.prog 211 Lx.1 Tryz.f211.ntmps:=gW_ Tryz.func211 Lx.2 Tryz.call211
noncomputable def Ly:GQ_ Tryz.f218:=⟨_,by conv=>lhs;cbv⟩
theorem aeR:af Tryz.prog 218 Ly.1 Tryz.f218.ntmps:=gW_ Tryz.func218 Ly.2 Tryz.call218
noncomputable def Lz:GQ_ Tryz.f228:=⟨_,by conv=>lhs;cbv⟩
theorem aeS:af Tryz.prog 228 Lz.1 Tryz.f228.ntmps:=gW_ Tryz.func228 Lz.2 Tryz.call228
noncomputable def LA:GQ_ Tryz.f254:=⟨_,by conv=>lhs;cbv⟩
theorem aeT:af Tryz.prog 254 LA.1 Tryz.f254.ntmps:=gW_ Tryz.func254 LA.2 Tryz.call254
noncomputable def LB:GQ_ Tryz.f260:=⟨_,by conv=>lhs;cbv⟩
theorem aeU:af Tryz.prog 260 LB.1 Tryz.f260.ntmps:=gW_ Tryz.func260 LB.2 Tryz.call260
noncomputable def LC:GQ_ Tryz.f275:=⟨_,by conv=>lhs;cbv⟩
theorem aeV:af Tryz.prog 275 LC.1 Tryz.f275.ntmps:=gW_ Tryz.func275 LC.2 Tryz.call275
noncomputable def LD:GQ_ Tryz.f283:=⟨_,by conv=>lhs;cbv⟩
theorem aeW:af Tryz.prog 283 LD.1 Tryz.f283.ntmps:=gW_ Tryz.func283 LD.2 Tryz.call283
noncomputable def LF:GQ_ Tryz.f296:=⟨_,by conv=>lhs;cbv⟩
theorem aeX:af Tryz.prog 296 LF.1 Tryz.f296.ntmps:=gW_ Tryz.func296 LF.2 Tryz.call296
noncomputable def LG:GQ_ Tryz.f310:=⟨_,by conv=>lhs;cbv⟩
theorem aeY:af Tryz.prog 310 LG.1 Tryz.f310.ntmps:=gW_ Tryz.func310 LG.2 Tryz.call310
noncomputable def LH:GQ_ Tryz.f316:=⟨_,by conv=>lhs;cbv⟩
theorem aeZ:af Tryz.prog 316 LH.1 Tryz.f316.ntmps:=gW_ Tryz.func316 LH.2 Tryz.call316
noncomputable def LI:GQ_ Tryz.f324:=⟨_,by conv=>lhs;cbv⟩
theorem ae0:af Tryz.prog 324 LI.1 Tryz.f324.ntmps:=gW_ Tryz.func324 LI.2 Tryz.call324
noncomputable def LL:GQ_ Tryz.f335:=⟨_,by conv=>lhs;cbv⟩
theorem ae1:af Tryz.prog 335 LL.1 Tryz.f335.ntmps:=gW_ Tryz.func335 LL.2 Tryz.call335
noncomputable def LM:GQ_ Tryz.f350:=⟨_,by conv=>lhs;cbv⟩
theorem ae2:af Tryz.prog 350 LM.1 Tryz.f350.ntmps:=gW_ Tryz.func350 LM.2 Tryz.call350
noncomputable def LN:GQ_ Tryz.f356:=⟨_,by conv=>lhs;cbv⟩
theorem ae3:af Tryz.prog 356 LN.1 Tryz.f356.ntmps:=gW_ Tryz.func356 LN.2 Tryz.call356
noncomputable def LO:GQ_ Tryz.f393:=⟨_,by conv=>lhs;cbv⟩
theorem ae4:af Tryz.prog 393 LO.1 Tryz.f393.ntmps:=gW_ Tryz.func393 LO.2 Tryz.call393
noncomputable def LP:GQ_ Tryz.f417:=⟨_,by conv=>lhs;cbv⟩
theorem ae5:af Tryz.prog 417 LP.1 Tryz.f417.ntmps:=gW_ Tryz.func417 LP.2 Tryz.call417
noncomputable def LQ:GQ_ Tryz.f445:=⟨_,by conv=>lhs;cbv⟩
theorem ae6:af Tryz.prog 445 LQ.1 Tryz.f445.ntmps:=gW_ Tryz.func445 LQ.2 Tryz.call445
end
section
set_option maxRecDepth 100000
attribute [local irreducible] ah aK ae aa
def Vz:CF Tryz.f403:=⟨_,by conv=>lhs;cbv⟩
theorem ae7:aT Tryz.prog 403 Vz.1 Tryz.f403.ntmps:=bX Tryz.func403 Vz.2 Tryz.call403
def sr:List Nat:=[8,0,5,4,7,9,1,16]
def VA:CF Tryz.f367:=⟨_,by conv=>lhs;cbv⟩
theorem ae8:aT Tryz.prog 367 VA.1 Tryz.f367.ntmps:=bX Tryz.func367 VA.2 Tryz.call367
def Sw:List Nat:=[4,0,1]
def VB:CF Tryz.f368:=⟨_,by conv=>lhs;cbv⟩
theorem ae9:aT Tryz.prog 368 VB.1 Tryz.f368.ntmps:=bX Tryz.func368 VB.2 Tryz.call368
def abL:List Nat:=[2,0,1]
def VC:CF Tryz.f336:=⟨_,by conv=>lhs;cbv⟩
theorem ae_:aT Tryz.prog 336 VC.1 Tryz.f336.ntmps:=bX Tryz.func336 VC.2 Tryz.call336
def abM:List Nat:=[2,0]
section
variable {w0:World}{ρ:Hd}
theorem abN (p:Tm->Bool) (l:List Tm) (gid:FuncId) (fs cs:List AV) (hl:l.length<=1099511627776) (hF:Pure (.fn (.func gid) fs cs)) (h:∀ x ∈ l,IQ Tryz.prog w0 (.fn (.func gid) fs cs) [tm ρ x] (p x)):ah Tryz.prog w0 403 [tl ρ l,.fn (.func gid) fs cs] (iv (gD p l 0)):=by
 obtain⟨R,hR⟩:∃ R,R=gD p l 0:=⟨_,rfl⟩
 rw [<-hR]
 refine ae7.bu (by simp [Tryz.ntmps403]) (.v) ?_
 refine gq sr ?_
 repeat' (first
  |(refine bL fun m hm=>?_;(try rw [aF] at hm);refine gq sr ?_)
  )
 refine aa.bP (σ:=Int) 0 0 [] (fun i=>[(0,tl ρ l),(1,.fn (.func gid) fs cs),(7,.v (.int .i64 m)),(8,.v (.int .i64 i))]) [] (fun _=>[])
  (fun i=>∃ k:Nat,i=k/\k<=l.length/\R=gD p (l.drop k) k) (fun i=>l.length - i.toNat) 0 ⟨0,rfl,by simp,by simpa using hR⟩ rfl ⟨⟨.aB rfl (Pure.b9 (bl _)),.aB rfl (Pure.b9 hF),.aB rfl .v,.aB rfl .v,trivial⟩,rfl,trivial,rfl,rfl,rfl⟩ ?_
 rintro i ⟨k,hi,hk,hp⟩
 clear hR
 refine gq sr ?_
 by_cases aA:k < l.length
 ·obtain⟨x,hx,cg⟩:=cd aA
  rw [cg,gD] at hp
  have hf:=h x (g8 hx)
  repeat' (first
   |(refine aa.op rfl (ae.ind rfl rfl (lj (l:=l) hi hx) ll) ?_;refine gq sr ?_)
   |(refine aa.bif rfl (ae.fnB rfl rfl hf) (fun _=>?_) (fun _=>?_)<;>refine gq sr ?_)
   |(refine bq (fun hb=>?_) (fun hb=>?_)<;>(try simp only [aM] at hb)<;>(first|refine gq sr ?_))
   |(refine cr fun _ _=>?_;refine gq sr ?_)
   |(refine aa.aR ?_;refine gq sr ?_)
   |(refine aa.iB ?_;refine gq sr ?_)
   |(refine fq ?_))
  all_goals first
   |(rw [if_pos (by assumption)] at hp;refine oU ?_;omega)
   |(rw [if_neg (by simp_all)] at hp
     refine aa.bm (σ:=Int) _ [] ?_ ?_ ⟨⟨.aB rfl (Pure.b9 (bl _)),.aB rfl (Pure.b9 hF),.aB rfl .v,.aB rfl .v,trivial⟩,rfl,trivial,rfl,rfl,rfl⟩
     ·exact⟨k+1,by omega,by omega,hp⟩
     ·omega)
   |(exfalso;omega)
 ·skip
  repeat' (first
   |(refine bq (fun hb=>?_) (fun hb=>?_)<;>(try simp only [aM] at hb)<;>(first|refine gq sr ?_))
   |(refine aa.aR ?_;refine gq sr ?_)
   |(refine fq ?_))
  all_goals first
   |(exfalso;omega)
   |(rw [hp,List.drop_eq_nil_of_le (by omega)];exact oU rfl)
theorem abO (p:Tm->Bool) (l:List Tm) (gid:FuncId) (fs cs:List AV) (hl:l.length<=1099511627776) (hF:Pure (.fn (.func gid) fs cs)) (h:∀ x ∈ l,IQ Tryz.prog w0 (.fn (.func gid) fs cs) [tm ρ x] (p x)):ah Tryz.prog w0 367 [tl ρ l,.fn (.func gid) fs cs] (.v (.bool (l.any p))):=by
 have hI:=abN (w0:=w0) (ρ:=ρ) p l gid fs cs hl hF h
 have po:=rS p l 0
 obtain⟨j,hj⟩:∃ j,j=gD p l 0:=⟨_,rfl⟩
 rw [<-hj] at hI po
 refine ae8.bu (by simp [Tryz.ntmps367]) (.v) ?_
 refine gq Sw ?_
 repeat' (first
  |(refine aa.int rfl (ae.aL rfl hI ⟨bl _,hF,trivial⟩) fun _ _=>?_;refine gq Sw ?_)
  |(refine bq (fun hb=>?_) (fun hb=>?_)<;>(try simp only [aM] at hb)<;>(first|refine gq Sw ?_))
  |(refine fq ?_))
 all_goals (subst_vars;refine eQ ?_;rw [<-po];simp_all)
theorem abP {f:FuncId}:Wk (.v (.func (.func f) #[] #[])) (.fn (.func f) [] []):=fun g w x hr=>by
 obtain rfl:=bO hr
 exact .fn rfl rfl (fun i a y h=>by simp at h) (fun i a y h=>by simp at h)
theorem PJ (x:Tm) (hx:x.ok):ah Tryz.prog w0 368 [tm ρ x] (.v (.bool (!(eY x)))):=by
 have h:=X7 (w0:=w0) (ρ:=ρ) x hx
 obtain⟨R,hR⟩:∃ R,R=eY x:=⟨_,rfl⟩
 rw [<-hR] at h ⊢
 refine ae9.bu (by simp [Tryz.ntmps368]) (.v) ?_
 refine gq abL ?_
 repeat' (first
  |(refine aa.bif rfl (ae.aL rfl h ⟨cK x,trivial⟩) (fun _=>?_) (fun _=>?_)<;>refine gq abL ?_)
  |(refine fq ?_))
 all_goals (refine eQ ?_;simp_all)
theorem YH (x:Tm) (hx:x.ok):IQ Tryz.prog w0 (.fn (.func 368) [] []) [tm ρ x] (!(eY x)):=⟨_,_,rfl,⟨cK x,trivial⟩,PJ x hx⟩
theorem Hr (l:List Tm) (hl:l.length<=1099511627776) (lN:∀ x ∈ l,x.ok):ah Tryz.prog w0 336 [tl ρ l] (.v (.bool (!(l.any fun x=>!(eY x))))):=by
 obtain⟨R,hR⟩:∃ R,R=(l.any fun x=>!(eY x)):=⟨_,rfl⟩
 have hc:=abO (w0:=w0) (ρ:=ρ) (fun x=>!(eY x)) l 368 [] [] hl (.fn (fun a h=>by cases h) (fun a h=>by cases h)) (fun x hx=>YH x (lN x hx))
 rw [<-hR] at hc ⊢
 refine ae_.bu (by simp [Tryz.ntmps336]) (.v) ?_
 refine gq abM ?_
 repeat' (first
  |(refine aa.bif rfl (ae.Fo rfl hc ⟨bl _,.fn (fun a h=>by cases h) (fun a h=>by cases h),trivial⟩ ⟨.refl _,abP,trivial⟩) (fun _=>?_) (fun _=>?_)<;>refine gq abM ?_)
  |(refine fq ?_))
 all_goals (refine eQ ?_;simp_all)
end
end
section
set_option maxRecDepth 100000
theorem jV (c:Int):Pure (.aE [.sl true [],iv c]):=.aE fun a ha=>by
 simp only [List.mem_cons,List.not_mem_nil,or_false] at ha
 rcases ha with rfl|rfl
 ·exact .sl fun r hr=>by cases hr
 ·exact .v
section
variable {w0:World}{ρ:Hd}
theorem Sx {l r:List Tm}(qF:ah Tryz.prog w0 336 [tl ρ l] (.v (.bool false))):aK Tryz.prog w0 292 [tl ρ l,tl ρ r] (au [] 0) (.aE [.sl true [],iv 2]) (au [] 0):=by
 refine aT.fM 0 0 _ E1 (by simp [Tryz.ntmps292]) rfl rfl ?_
 refine gq eZ ?_
 refine aa.op rfl (ae.aL rfl qF ⟨bl _,trivial⟩) ?_
 refine gq eZ ?_
 refine fq ?_
 exact⟨[],.aB (Pure.b9 (jV 2)),trivial,rfl⟩
theorem Sy {l r:List Tm}(qF:ah Tryz.prog w0 336 [tl ρ l] (.v (.bool true))) (uH:ah Tryz.prog w0 336 [tl ρ r] (.v (.bool false))):aK Tryz.prog w0 292 [tl ρ l,tl ρ r] (au [] 0) (.aE [.sl true [],iv 2]) (au [] 0):=by
 refine aT.fM 0 0 _ E1 (by simp [Tryz.ntmps292]) rfl rfl ?_
 refine gq eZ ?_
 refine aa.op rfl (ae.aL rfl qF ⟨bl _,trivial⟩) ?_
 refine gq eZ ?_
 refine aa.op rfl (ae.aL rfl uH ⟨bl _,trivial⟩) ?_
 refine gq eZ ?_
 refine fq ?_
 exact⟨[],.aB (Pure.b9 (jV 2)),trivial,rfl⟩
theorem Sz {l r:List Tm}(qF:ah Tryz.prog w0 336 [tl ρ l] (.v (.bool true))) (uH:ah Tryz.prog w0 336 [tl ρ r] (.v (.bool true))) (hlen:l.length ≠ r.length):aK Tryz.prog w0 292 [tl ρ l,tl ρ r] (au [] 0) (.aE [.sl true [],iv 9]) (au [] 0):=by
 refine aT.fM 0 0 _ E1 (by simp [Tryz.ntmps292]) rfl rfl ?_
 refine gq eZ ?_
 refine aa.op rfl (ae.aL rfl qF ⟨bl _,trivial⟩) ?_
 refine gq eZ ?_
 refine aa.op rfl (ae.aL rfl uH ⟨bl _,trivial⟩) ?_
 refine gq eZ ?_
 refine bL fun q1 BP=>?_
 rw [aF] at BP
 refine gq eZ ?_
 refine bL fun q2 pX=>?_
 rw [aF] at pX
 refine gq eZ ?_
 refine bq (fun eB=>?_) (fun eB=>?_)<;>(try simp only [aM] at eB)
 rotate_left
 ·exfalso;omega
 refine gq eZ ?_
 refine fq ?_
 exact⟨[],.aB (Pure.b9 (jV 9)),trivial,rfl⟩
end
end
end Go.Proofs.YtgjfgekaclobaaaGreat
