import Derived.Test.YtgphljokbodciaaGreatS30
namespace Go.Proofs.YtgphljokbodciaaGreat
set_option linter.unusedVariables false
set_option linter.unusedSimpArgs false
open Go.RowKit
section
set_option maxRecDepth 100000
section
variable {w0:World}{ρ:Hd}
theorem HS {F:Fence}(hF:iF F) (n:Nat) (p:Addr) (w:World):CallsDIn F.plain n Tryz.prog 280 #[.pointer (some p)] .returning w fun e u' w'=>e=.returned (.tuple #[])/\u'=.returning/\w'=w:=by
 refine callsDIn_of_wpSIn Tryz.func280 rfl (hF.1 _) fun HT cs hu=>?_
 simp only [Tryz.ntmps280,List.size_toArray,List.length_cons,List.length_nil,Nat.reduceAdd,Nat.reduceSub,Array.replicate_succ,Array.replicate_zero,List.push_toArray,List.append_toArray,List.nil_append,List.cons_append]
 apply wpSIn_seq
 apply wpSIn_region
 simp [wpOpsSIn,go_sem,recoverD,hu,Exit.thenS,hF.1]
 refine wpSIn_of_wpIn rfl ?_
 refine wpIn_block (wpIn_seq (wpIn_region ?_))
 simp [wpOpsIn,go_sem]
 refine wpIn_cond (t:=true) (by simp [Act.eval]) ?_
 simp only [if_true]
 refine wpIn_region ?_
 simp [wpOpsIn,go_sem,bodyPostS,results,Tryz.results280,Exit.inBlock]
 cases HT
 simp_all
theorem HU {F:Fence}(hF:iF F) (n:Nat) (b:Nat) (x e0:Int) (w:World) (hc:w.cell? ⟨b,0,none⟩=some (.int .i64 x)) (hz:w.frozen? ⟨b,0,none⟩=false) (hb:b < w.heap.size) :
  CallsDIn F.plain n Tryz.prog 280 #[.pointer (some ⟨b,0,none⟩)] (.panicking (lW e0)) w fun e u' w'=>e=.returned (.tuple #[])/\u'=.panicking [{ v:=Hw e0,recovered:=true }] /\
   w'=(w.alloc (.cells #[.int .i64 e0] 313)).setCell ⟨b,0,none⟩ (.int .i64 e0):=by
 have AL:(w.alloc (.cells #[.int .i64 e0] 313)).heap[b]?=w.heap[b]?:=by
  simp only [World.alloc]
  rw [Array.getElem?_push_lt hb,Array.getElem?_eq_getElem hb]
 have gK:(w.alloc (.cells #[.int .i64 e0] 313)).cell? ⟨b,0,none⟩=some (.int .i64 x):=(World.cell?_of_block AL).trans hc
 have Vi:(w.alloc (.cells #[.int .i64 e0] 313)).frozen? ⟨b,0,none⟩=false:=by
  rw [<-hz];simp only [World.frozen?,AL]
 refine callsDIn_of_wpSIn Tryz.func280 rfl (hF.1 _) fun HT cs hu=>?_
 simp only [Tryz.ntmps280,List.size_toArray,List.length_cons,List.length_nil,Nat.reduceAdd,Nat.reduceSub,Array.replicate_succ,Array.replicate_zero,List.push_toArray,List.append_toArray,List.nil_append,List.cons_append]
 apply wpSIn_seq
 apply wpSIn_region
 simp [wpOpsSIn,go_sem,recoverD,hu,Exit.thenS,hF.1,lW]
 refine wpSIn_of_wpIn rfl ?_
 refine wpIn_block (wpIn_seq (wpIn_region ?_))
 simp [wpOpsIn,go_sem,Hw]
 refine wpIn_cond (t:=false) (by simp [Act.eval]) ?_
 simp only [Bool.false_eq_true,if_false]
 refine wpIn_seq (wpIn_region ?_)
 have hu1:∀ w,(underlying 313).run Tryz.prog w=.ok (.struct (Tryz.prog.fieldsOf 313)) w:=fun w=>by
  have h:Tryz.prog.underlying 313=some (.struct (Tryz.prog.fieldsOf 313)):=by kernel_rfl
  simp [underlying,h]
 have hta:∀ w,(Instr.typeAssert (.iface 313 (.agg #[.int .i64 e0])) 20 313 true).run Tryz.prog w=.ok (.tuple #[.agg #[.int .i64 e0],.bool true]) w:=fun w=>by simp [Instr.typeAssert,hu1]
 simp [wpOpsIn,go_sem,hta]
 refine wpIn_cond (t:=true) (by simp [Act.eval]) ?_
 simp only [if_true]
 refine wpIn_seq (wpIn_region ?_)
 simp [wpOpsIn,go_sem]
 refine wpIn_region ?_
 simp [wpOpsIn,go_sem,gK,Vi]
 simp [bodyPostS,results,Tryz.results280,Exit.inBlock]
def WG (a e:Int):ae:=(iH ae.none_ [iv a]).2.set 0 (some (.arr 1 [[iv e]] 0 true))
theorem tt {A:Nat->Prop}{g2:Gh}{S:ae}{w2:World}{a e:Int}{b:Nat}(l8:St w0 A g2 S w2) (h0:S.get 0=some (.arr 1 [[iv a]] 0 true)) (hk:g2.al 0) (gU:g2.ob 0=b) :
  w2.cell? ⟨b,0,none⟩=some (.int .i64 a)/\w2.frozen? ⟨b,0,none⟩=false/\b < w2.heap.size/\Ext A g2 w2 g2 (w2.setCell ⟨b,0,none⟩ (.int .i64 e))/\St w0 A g2 (S.set 0 (some (.arr 1 [[iv e]] 0 true))) (w2.setCell ⟨b,0,none⟩ (.int .i64 e)):=by
 obtain⟨k2,k3,cells,ty,p1,p2,p3,p4,p5,p6,p7⟩:=l8.cH 0 _ h0 hk
 rw [gU] at k2 k3 p1
 obtain⟨x,fO,aQ⟩:=(p5 0 _ rfl).2 0 _ rfl
 have aQ:=cd aQ
 subst aQ
 have hc:w2.cell? ⟨b,0,none⟩=some (.int .i64 a):=by rw [cell_of_row w2 b _ cells ty (0,0) p1];simpa using fO
 have hz:w2.frozen? ⟨b,0,none⟩=false:=by simp [World.frozen?,p1]
 have jI:lv Tryz.prog S 29 (iv e) (.pt 0 1 0 0)=some (S.set 0 (some (.arr 1 [[iv e]] 0 true))):=by
  have:cS Tryz.prog 29=some 1:=by kernel_rfl
  simp only [lv,h0,this]
  rfl
 have WH:aL g2 w2 (.pt 0 1 0 0) (.pointer (some ⟨b,0,none⟩)):=by
  have:=aL.pt (g:=g2) (w:=w2) (k:=0) (sz:=1) (i:=0) (j:=0) hk
  rw [gU] at this
  exact this
 obtain⟨c,o,w',e1,e2,_,e4,e5⟩:=qU l8 jI WH (x:=.int .i64 e) .v
 simp only [Value.pointer.injEq,Option.some.injEq,Addr.mk.injEq,and_true] at e1
 obtain⟨rfl,rfl⟩:=e1
 have cu:(storeVar 29 ⟨b,0,none⟩ (.int .i64 e)).run Tryz.prog w2=.ok () (w2.setCell ⟨b,0,none⟩ (.int .i64 e)):=by simp [go_sem,hc,hz]
 rw [cu] at e2
 injection e2 with _ e2
 subst e2
 exact⟨hc,hz,k3,e4,e5⟩
theorem NM {g:FuncId}{fs cs:List AV}(hp:c_ (fs++cs)) (h:ah Tryz.prog w0 g (fs++cs) (.bc [])):ah Tryz.prog w0 152 [.fn (.func g) fs cs] (iv 0):=by
 refine⟨.v,WG 0 0,Tryz.call152,fun F m A gh bO w hF hS hA=>?_⟩
 obtain⟨bI,xp⟩:=hA
 obtain⟨fv,rfl⟩:∃ fv,bO=#[fv]:=by
  obtain⟨l⟩:=bO
  match l,bI with
  |[x],_=>exact⟨x,rfl⟩
 obtain⟨us,bs,rfl,db,eH⟩:=uY (xp 0 _ _ rfl rfl)
 clear xp bI
 have vO:=tp (w0:=w0) (A:=A) (cs:=[iv 0]) (cells:=#[.int .i64 0]) (ty:=29) hS ⟨rfl,fun i a x h1 h2=>by
  match i,h1,h2 with
  |0,h1,h2=>obtain rfl:=Option.some.inj h1;obtain rfl:=Option.some.inj h2;exact .v⟩
 obtain⟨w1,se⟩:∃ w1:World,w1=w.alloc (.cells #[.int .i64 0] 29):=⟨_,rfl⟩
 rw [<-se] at vO
 obtain⟨g1,BC,fm,kK⟩:=vO
 have Lq:jL g1 w1 (fs++cs) (us++bs):=by
  have:=fY db eH
  exact⟨this.1,fun i a x h1 h2=>(this.2 i a x h1 h2).later kK.toLater⟩
 have bL:=(h.AM hp (iH ae.none_ [iv 0]).2).2 F.plain (m - 1) A g1 (us++bs) w1 hF.plain fm Lq
 have key:CallsIn F.plain m Tryz.prog 152 #[.func (.func g) us bs] w fun e w'=>∃ v g',e=.returned v/\aL g' w' (iv 0) v/\St w0 A g' (WG 0 0) w'/\Ext A gh w g' w':=by
  refine callsIn_of_wp_defers Tryz.func152 rfl (hF.1 _) ?_ rfl
  simp only [Tryz.ntmps152,List.size_toArray,List.length_cons,List.length_nil,Nat.reduceAdd,Nat.reduceSub,Array.replicate_succ,Array.replicate_zero,List.push_toArray,List.append_toArray,List.nil_append,List.cons_append]
  refine wpIn_seq (wpIn_region ?_)
  simp [wpOpsIn,go_sem]
  rw [<-se]
  have Lr:∀ (fn:Fn) (first cap:Array Value) (w:World),(Instr.makeFunc fn first cap).run Tryz.prog w=.ok (.func fn first cap) w:=fun _ _ _ _=>rfl
  refine wpIn_seq (wpIn_region ?_)
  simp [wpOpsIn,go_sem,Lr]
  refine wpIn_seq (wpIn_region ?_)
  simp [wpOpsIn,go_sem]
  refine⟨hF.1 g,?_⟩
  rw [(h.AM hp ae.none_).1 (us++bs) w1,Oper.uponIn_enter]
  refine⟨fun hd=>(by rw [show F.plain.depth=F.depth from rfl,hF.2.1] at hd;cases hd),bL.mono ?_⟩
  rintro e w2 ⟨v,g2,rfl,_,l8,rC⟩
  simp only
  obtain⟨ez,jw⟩:g1.al 0/\g1.ob 0=w.heap.size:=by
   generalize hv:Value.pointer (some ⟨w.heap.size,0,none⟩)=y at BC
   cases BC with
   |pt hk=>simp [iH,ae.none_] at hv;exact⟨hk,hv.symm⟩
  have dD:=rC.al 0 ez
  have vP:g2.ob 0=w.heap.size:=(rC.ob 0 ez).trans jw
  obtain⟨hc,hz,au,pM,pN⟩:=tt (e:=0) l8 rfl dD vP
  refine wpIn_seq (wpIn_region ?_)
  simp [wpOpsIn,go_sem,hc,hz]
  refine wpIn_ret ?_
  refine leavesIn_cons (f:=280) (args:=#[.pointer (some ⟨w.heap.size,0,none⟩)]) (by simp) (fun hd=>(by rw [show F.plain.depth=F.depth from rfl,hF.2.1] at hd;cases hd)) (by simp [go_sem]) (fun g hg=>hF.1 g) ?_
  refine (HS hF _ _ _).mono ?_
  rintro e u' rB ⟨rfl,rfl,rfl⟩
  have zl:(w2.setCell ⟨w.heap.size,0,none⟩ (.int .i64 0)).cell? ⟨w.heap.size,0,none⟩=some (.int .i64 0):=(tt (e:=0) pN rfl dD vP).1
  simp [LeavesIn,settle,results,Tryz.results152,go_sem,zl]
  exact⟨g2,.v,pN,(kK.trans rC).trans pM⟩
 exact key
theorem NN {g:FuncId}{fs cs:List AV}{e0:Int}(hp:c_ (fs++cs)) (h:pW Tryz.prog w0 g (fs++cs) (lW e0)):ah Tryz.prog w0 152 [.fn (.func g) fs cs] (iv e0):=by
 refine⟨.v,(iH (iH ae.none_ [iv 0]).2 [iv e0]).2.set 0 (some (.arr 1 [[iv e0]] 0 true)),Tryz.call152,fun F m A gh bO w hF hS hA=>?_⟩
 obtain⟨bI,xp⟩:=hA
 obtain⟨fv,rfl⟩:∃ fv,bO=#[fv]:=by
  obtain⟨l⟩:=bO
  match l,bI with
  |[x],_=>exact⟨x,rfl⟩
 obtain⟨us,bs,rfl,db,eH⟩:=uY (xp 0 _ _ rfl rfl)
 clear xp bI
 have vO:=tp (w0:=w0) (A:=A) (cs:=[iv 0]) (cells:=#[.int .i64 0]) (ty:=29) hS ⟨rfl,fun i a x h1 h2=>by
  match i,h1,h2 with
  |0,h1,h2=>obtain rfl:=Option.some.inj h1;obtain rfl:=Option.some.inj h2;exact .v⟩
 obtain⟨w1,se⟩:∃ w1:World,w1=w.alloc (.cells #[.int .i64 0] 29):=⟨_,rfl⟩
 rw [<-se] at vO
 obtain⟨g1,BC,fm,kK⟩:=vO
 have Lq:jL g1 w1 (fs++cs) (us++bs):=by
  have:=fY db eH
  exact⟨this.1,fun i a x h1 h2=>(this.2 i a x h1 h2).later kK.toLater⟩
 have bL:=(h.CH hp (S:=(iH ae.none_ [iv 0]).2) (fE.refl _ _)).2 F.plain (m - 1) A g1 (us++bs) w1 hF.plain fm Lq
 have key:CallsIn F.plain m Tryz.prog 152 #[.func (.func g) us bs] w fun e w'=>∃ v g',e=.returned v/\aL g' w' (iv e0) v/\St w0 A g' ((iH (iH ae.none_ [iv 0]).2 [iv e0]).2.set 0 (some (.arr 1 [[iv e0]] 0 true))) w'/\Ext A gh w g' w':=by
  refine callsIn_of_wp_defers Tryz.func152 rfl (hF.1 _) ?_ rfl
  simp only [Tryz.ntmps152,List.size_toArray,List.length_cons,List.length_nil,Nat.reduceAdd,Nat.reduceSub,Array.replicate_succ,Array.replicate_zero,List.push_toArray,List.append_toArray,List.nil_append,List.cons_append]
  refine wpIn_seq (wpIn_region ?_)
  simp [wpOpsIn,go_sem]
  rw [<-se]
  have Lr:∀ (fn:Fn) (first cap:Array Value) (w:World),(Instr.makeFunc fn first cap).run Tryz.prog w=.ok (.func fn first cap) w:=fun _ _ _ _=>rfl
  refine wpIn_seq (wpIn_region ?_)
  simp [wpOpsIn,go_sem,Lr]
  refine wpIn_seq (wpIn_region ?_)
  simp [wpOpsIn,go_sem]
  refine⟨hF.1 g,?_⟩
  rw [(h.CH hp (S:=ae.none_) (fE.refl _ _)).1 (us++bs) w1,Oper.uponIn_enter]
  refine⟨fun hd=>(by rw [show F.plain.depth=F.depth from rfl,hF.2.1] at hd;cases hd),bL.mono ?_⟩
  rintro e w2 ⟨g2,rfl,l8,rC⟩
  simp only
  obtain⟨ez,jw⟩:g1.al 0/\g1.ob 0=w.heap.size:=by
   generalize hv:Value.pointer (some ⟨w.heap.size,0,none⟩)=y at BC
   cases BC with
   |pt hk=>simp [iH,ae.none_] at hv;exact⟨hk,hv.symm⟩
  have dD:=rC.al 0 ez
  have vP:g2.ob 0=w.heap.size:=(rC.ob 0 ez).trans jw
  obtain⟨hc,hz,au,_,_⟩:=tt (e:=0) l8 rfl dD vP
  have aa3:=tp (w0:=w0) (A:=A) (cs:=[iv e0]) (cells:=#[.int .i64 e0]) (ty:=313) l8 ⟨rfl,fun i a x h1 h2=>by
   match i,h1,h2 with
   |0,h1,h2=>obtain rfl:=Option.some.inj h1;obtain rfl:=Option.some.inj h2;exact .v⟩
  obtain⟨g3,hr3,pN,pM⟩:=aa3
  have sf:=pM.al 0 dD
  have WI:g3.ob 0=w.heap.size:=(pM.ob 0 dD).trans vP
  obtain⟨zl,hz3,kU,hE4,hS4⟩:=tt (e:=e0) pN rfl sf WI
  have hc4:=(tt (e:=e0) hS4 rfl sf WI).1
  show LeavesIn F.plain m Tryz.prog Tryz.f152 _ _ _ (.panicking (lW e0)) w2
  refine leavesIn_cons (f:=280) (args:=#[.pointer (some ⟨w.heap.size,0,none⟩)]) (by simp) (fun hd=>(by rw [show F.plain.depth=F.depth from rfl,hF.2.1] at hd;cases hd)) (by simp [go_sem]) (fun g hg=>hF.1 g) ?_
  refine (HU hF _ _ 0 e0 _ hc hz au).mono ?_
  rintro e u' rB ⟨rfl,rfl,rfl⟩
  simp [LeavesIn,settle,results,Tryz.results152,go_sem,hc4]
  exact⟨g3,.v,hS4,((kK.trans rC).trans pM).trans hE4⟩
 exact key
theorem NO {g:FuncId}{fs cs:List AV}{b:Bool}{e0:Int}(hp:c_ (fs++cs)) (h:Ch Tryz.prog w0 g (fs++cs) b (.bc []) (lW e0)):ah Tryz.prog w0 152 [.fn (.func g) fs cs] (iv (if b then 0 else e0)):=by
 cases b with
 |true=>exact NM hp (h.1 rfl)
 |false=>exact NN hp (h.2 rfl)
end
end
section
set_option maxRecDepth 100000
attribute [local irreducible] ah aV ad ab
def Fi.ok (f:Fi):Prop:=f.ids.length<=1099511627776
section
variable {w0:World}{ρ:Hd}
theorem zm {r:Int}{l:List Int}(h:0<=r/\r < 40/\1<=(l.length:Int)/\(l.length:Int)<=4):nD ⟨r,l⟩=nC [] l:=by
 simp only [nD]
 rw [decide_eq_true h.1,decide_eq_true h.2.1,decide_eq_true h.2.2.1,decide_eq_true h.2.2.2]
 rfl
theorem yf {r:Int}{l:List Int}(h:r < 0\/40<=r\/(l.length:Int) < 1\/4 < (l.length:Int)):nD ⟨r,l⟩=false:=by
 simp only [nD]
 rcases h with h|h|h|h
 ·rw [decide_eq_false (show ¬ 0<=r by omega)];rfl
 ·rw [decide_eq_false (show ¬ r < 40 by omega)];simp
 ·rw [decide_eq_false (show ¬ 1<=(l.length:Int) by omega)];simp
 ·rw [decide_eq_false (show ¬ (l.length:Int)<=4 by omega)];simp
theorem NP (f:Fi) (hf:f.ok):ah Tryz.prog w0 240 [fi ρ f] (.v (.bool (nD f))):=by
 obtain⟨r,l⟩:=f
 have hl:l.length<=1099511627776:=hf
 have h1:=@zm r l
 have h2:=@yf r l
 obtain⟨R,y4⟩:∃ R,R=nD ⟨r,l⟩:=⟨_,rfl⟩
 rw [<-y4] at h1 h2 ⊢
 clear y4
 refine aaO.aH (by simp [Tryz.ntmps240]) (.v) ?_
 refine gq oG ?_
 repeat' (first
  |(refine bq (fun hb=>?_) (fun hb=>?_)<;>(try simp only [aq] at hb)<;>(first|refine gq oG ?_))
  |(refine az fun m hm=>?_;(try rw [af] at hm);refine gq oG ?_)
  |(refine fq ?_))
 all_goals first
  |(exact aI (h2 (by omega)).symm)
  |skip
 have hR:R=nC [] l:=h1 (by omega)
 clear h1 h2
 refine ab.aP (σ:=Int) 1 1 [] (fun i=>[(1,.pt 0 2 0 0),(26,bY ρ bJ false l),(27,.v (.int .i64 m)),(28,.v (.int .i64 i))]) [] (fun _=>[(0,.arr 2 [A8 ρ ⟨r,l⟩] 0 true)]) (fun i=>∃ k:Nat,i=k/\k<=l.length/\R=nC (l.take k) (l.drop k)) (fun i=>l.length - i.toNat) 0 ⟨0,rfl,by simp,by simpa using hR⟩ rfl (by exact⟨sq,rfl,⟨.inl ⟨_,rfl,.arr (by exact⟨kq,trivial⟩)⟩,trivial⟩,rfl,rfl,rfl⟩) ?_
 rintro i ⟨k,hi,hk,hp⟩
 clear hR
 refine gq oG ?_
 by_cases au:k < l.length
 ·obtain⟨x,hx,aQ⟩:=aA au
  rw [aQ,nC] at hp
  have ht:l.take k++[x]=l.take (k+1):=by rw [List.take_add_one,hx];rfl
  rw [ht] at hp
  have hC:=KM (w0:=w0) (ρ:=ρ) (l.take k) x (by simp;omega)
  obtain⟨B,hB⟩:∃ B,B=(l.take k).contains x:=⟨_,rfl⟩
  rw [<-hB] at hC hp
  obtain⟨q,hq⟩:∃ q,q=l.take k:=⟨_,rfl⟩
  rw [<-hq] at hC
  repeat' (first
   |(refine ab.op rfl (ad.ind rfl rfl (ay (l:=l) hi hx) (aw fun _=>rfl)) ?_;refine gq oG ?_)
   |(refine ab.gen (bY ρ bJ false) rfl (ad.NQ rfl rfl rfl (fun _=>rfl) (by decide) (by omega) (by omega)) (fun q2 DX=>?_);obtain rfl:q2=q:=(by rw [DX,hq,Int.toNat_zero,List.drop_zero];try (congr 1;omega));refine gq oG ?_)
   |(refine ab.bif rfl (ad.ag rfl hC ⟨bR _,.v,trivial⟩) (fun _=>?_) (fun _=>?_)<;>refine gq oG ?_)
   |(refine bq (fun hb=>?_) (fun hb=>?_)<;>(try simp only [aq] at hb)<;>(first|refine gq oG ?_))
   |(refine aS fun _ _=>?_;refine gq oG ?_)
   |(refine ab.ao ?_;refine gq oG ?_)
   |(refine ab.bK ?_;refine gq oG ?_)
   |(refine fq ?_))
  all_goals first
   |(exfalso;omega)
   |(refine aI ?_;rw [hp,decide_eq_false (show ¬ 1<=x by omega)];rfl)
   |(refine aI ?_;rw [hp,show B=true by assumption];simp;done)
   |((refine ab.aK (σ:=Int) _ [] ?_ ?_ (by exact⟨sq,rfl,⟨.inl ⟨_,rfl,.arr (by exact⟨kq,trivial⟩)⟩,trivial⟩,rfl,rfl,rfl⟩)<;>first|omega|exact⟨k+1,by omega,by omega,by rw [hp,decide_eq_true (show 1<=x by omega),show B=false by assumption];rfl⟩))
 ·skip
  repeat' (first
   |(refine bq (fun hb=>?_) (fun hb=>?_)<;>(try simp only [aq] at hb)<;>(first|refine gq oG ?_))
   |(refine ab.ao ?_;refine gq oG ?_)
   |(refine fq ?_))
  all_goals first
   |(exfalso;omega)
   |(rw [hp,List.drop_eq_nil_of_le (by omega),nC];exact aI rfl)
theorem Ud (f:Fi) (hf:f.ok):ah Tryz.prog w0 366 [fi ρ f] (.v (.bool (nD f))):=by
 obtain⟨r,l⟩:=f
 have hl:l.length<=1099511627776:=hf
 have h1:=@zm r l
 have h2:=@yf r l
 obtain⟨R,y4⟩:∃ R,R=nD ⟨r,l⟩:=⟨_,rfl⟩
 rw [<-y4] at h1 h2 ⊢
 clear y4
 refine aaP.aH (by simp [Tryz.ntmps366]) (.v) ?_
 refine gq mL ?_
 repeat' (first
  |(refine bq (fun hb=>?_) (fun hb=>?_)<;>(try simp only [aq] at hb)<;>(first|refine gq mL ?_))
  |(refine az fun m hm=>?_;(try rw [af] at hm);refine gq mL ?_)
  |(refine fq ?_))
 all_goals first
  |(exact aI (h2 (by omega)).symm)
  |skip
 have hR:R=nC [] l:=h1 (by omega)
 clear h1 h2
 refine ab.aP (σ:=Int) 1 1 [] (fun i=>[(1,.pt 0 2 0 0),(3,.v (.int .i64 i))]) [] (fun _=>[(0,.arr 2 [A8 ρ ⟨r,l⟩] 0 true)]) (fun i=>∃ k:Nat,i=k/\k<=l.length/\R=nC (l.take k) (l.drop k)) (fun i=>l.length - i.toNat) 0 ⟨0,rfl,by simp,by simpa using hR⟩ rfl (by exact⟨sq,rfl,⟨.inl ⟨_,rfl,.arr (by exact⟨kq,trivial⟩)⟩,trivial⟩,rfl,rfl,rfl⟩) ?_
 rintro i ⟨k,hi,hk,hp⟩
 clear hR
 refine gq mL ?_
 by_cases au:k < l.length
 ·obtain⟨x,hx,aQ⟩:=aA au
  rw [aQ,nC] at hp
  have ht:l.take k++[x]=l.take (k+1):=by rw [List.take_add_one,hx];rfl
  rw [ht] at hp
  have hC:=Vr (w0:=w0) (ρ:=ρ) (l.take k) x (by simp;omega)
  obtain⟨B,hB⟩:∃ B,B=(l.take k).contains x:=⟨_,rfl⟩
  rw [<-hB] at hC hp
  obtain⟨q,hq⟩:∃ q,q=l.take k:=⟨_,rfl⟩
  rw [<-hq] at hC
  repeat' (first
   |(refine ab.op rfl (ad.ind rfl rfl (ay (l:=l) hi hx) (aw fun _=>rfl)) ?_;refine gq mL ?_)
   |(refine ab.gen (bY ρ bJ false) rfl (ad.NQ rfl rfl rfl (fun _=>rfl) (by decide) (by omega) (by omega)) (fun q2 DX=>?_);obtain rfl:q2=q:=(by rw [DX,hq,Int.toNat_zero,List.drop_zero];try (congr 1;omega));refine gq mL ?_)
   |(refine ab.bif rfl (ad.ag rfl hC ⟨bR _,.v,trivial⟩) (fun _=>?_) (fun _=>?_)<;>refine gq mL ?_)
   |(refine bq (fun hb=>?_) (fun hb=>?_)<;>(try simp only [aq] at hb)<;>(first|refine gq mL ?_))
   |(refine az fun m hm=>?_;(try rw [af] at hm);refine gq mL ?_)
   |(refine aS fun _ _=>?_;refine gq mL ?_)
   |(refine ab.ao ?_;refine gq mL ?_)
   |(refine ab.bK ?_;refine gq mL ?_)
   |(refine fq ?_))
  all_goals first
   |(exfalso;omega)
   |(refine aI ?_;rw [hp,decide_eq_false (show ¬ 1<=x by omega)];rfl)
   |(refine aI ?_;rw [hp,show B=true by assumption];simp;done)
   |((refine ab.aK (σ:=Int) _ [] ?_ ?_ (by exact⟨sq,rfl,⟨.inl ⟨_,rfl,.arr (by exact⟨kq,trivial⟩)⟩,trivial⟩,rfl,rfl,rfl⟩)<;>first|omega|exact⟨k+1,by omega,by omega,by rw [hp,decide_eq_true (show 1<=x by omega),show B=false by assumption];rfl⟩))
 ·skip
  repeat' (first
   |(refine bq (fun hb=>?_) (fun hb=>?_)<;>(try simp only [aq] at hb)<;>(first|refine gq mL ?_))
   |(refine az fun m hm=>?_;(try rw [af] at hm);refine gq mL ?_)
   |(refine ab.ao ?_;refine gq mL ?_)
   |(refine fq ?_))
  all_goals first
   |(exfalso;omega)
   |(rw [hp,List.drop_eq_nil_of_le (by omega),nC];exact aI rfl)
end
end
structure Fr where
 t:Tr AV
 ds:List DE
def cA (F:Fr):AA:=⟨ew F.t,F.ds⟩
inductive XR where
 |dn (ex:Exit) (F:Fr) (s:XS)
 |mr (cf:QF) (F:Fr) (s:XS)
 |no
abbrev Rec:=Bool->Nat->QF->Fr->XS->XR
structure Env where
 zn:Nat->Option ((QC × List QR) × Nat)
 ext:Nat->List AV->Option AV
 nat:Nat->List AV->Option Value
 Ls:Nat->Option AV
 wm:Nat->Bool
 F6:Nat->Value->Bool
 WJ:Value->Value->Bool
 seq:Nat->Value->Value->Option Bool
def Cq (s:XS):List DE->Option XS
 |[]=>some s
 |.del _ _ _::_=>none
 |.ob k::ks=>match (eI s).get k with
  |some .df=>Cq (l5 s k none) ks
  |_=>none
def u4 (qs:List QR) (ex:Exit) (F:Fr) (s:XS):Option (AV × XS):=match Cg ex,Cq s F.ds with
 |true,some s'=>match mE (ew F.t) (eI s') qs with
  |some [a]=>some (a,s')
  |some l=>some (.bc l,s')
  |none=>none
 |_,_=>none
def ylX (args:List AV) (s:XS):AV × XS:=match s.an with
 |0=>(.v (.bool false),⟨s.m,s.nx,s.lw,s.yk,0,(args,false)::s.lg⟩)
 |a+1=>(.v (.bool true),⟨s.m,s.nx,s.lw,s.yk,a,(args,true)::s.lg⟩)
def WK:XS:=⟨.nil,0,0,none,0,[]⟩
def HV (E:Env) (rc:Rec) (g:Nat) (aZ9:List AV):Option AV:=match E.zn g with
 |none=>none
 |some (c,n)=>match Nat.ble aZ9.length n,fT (iT 60) aZ9 with
  |true,true=>match rc false n (.run c.1 []) ⟨qd aZ9 0 .nil,[]⟩ WK with
   |.dn ex F s'=>match s'.lg,u4 c.2 ex F s' with
    |[],some (r,s2)=>match iT 60 r with
     |true=>some r
     |false=>gC (eI s2) 60 r
    |_,_=>none
   |_=>none
  |_,_=>none
def WL (E:Env) (rc:Rec) (g:Nat) (aZ9:List AV):Option (Nat × Nat × List (List AV) × Nat × Bool):=match E.zn g with
 |none=>none
 |some (c,n)=>match Nat.ble aZ9.length n,fT (iT 60) aZ9 with
  |true,true=>match rc false n (.run c.1 []) ⟨qd aZ9 0 .nil,[]⟩ WK with
   |.dn ex F s'=>match s'.lg,u4 c.2 ex F s' with
    |[],some (.ob k sz 0 len none,s2)=>match (eI s2).get k with
     |some (.arr sz' rows fz ex)=>match Nat.beq sz' sz && rq (iT 60) rows with
      |true=>some (sz,len,rows,fz,ex)
      |false=>none
     |_=>none
    |_,_=>none
   |_=>none
  |_,_=>none
def DY (E:Env) (rc:Rec) (g:Nat) (aZ9:List AV):Option AV:=match E.ext g aZ9 with
 |some r=>some r
 |none=>match E.Ls g with
  |some v=>match aZ9 with
   |[.fn (.func h) first cap]=>match HV E rc h (first++cap) with
    |some (.bc [])=>some v
    |_=>none
   |_=>none
  |none=>HV E rc g aZ9
def HW:Nat->AV->Bool
 |0,_=>false
 |m+1,a=>match a with
  |.v _=>true
  |.bc l|.agg l=>fT (HW m) l
  |_=>false
def zcX (E:Env) (rc:Rec) (g:Nat) (aZ9:List AV) (s:XS):Option AV:=match fT (iT 60) aZ9 with
 |true=>DY E rc g aZ9
 |false=>match kr (gC (eI s) 60) aZ9 with
  |some rz=>match DY E rc g rz with
   |some r=>match HW 9 r with
    |true=>some r
    |false=>none
   |none=>none
  |none=>none
def Ru (E:Env) (rc:Rec) (g:Nat) (aZ9:List AV) (s:XS):Option (AV × XS):=match E.zn g with
 |none=>none
 |some (c,n)=>match Nat.ble aZ9.length n with
  |true=>match rc false n (.run c.1 []) ⟨qd aZ9 0 .nil,[]⟩ ⟨s.m,s.nx,s.nx,s.yk,s.an,s.lg⟩ with
   |.dn ex F s'=>u4 c.2 ex F s'
   |_=>none
  |false=>none
def wu (E:Env) (rc:Rec) (fw:Bool) (fv:AV) (args:List AV) (s:XS):Option (AV × XS):=match fv with
 |.yl k=>match ee s.yk k with
  |true=>match HA s args with
   |some (bO,s1)=>some (ylX bO s1)
   |none=>none
  |false=>none
 |fv=>match e7 fv args with
  |none=>none
  |some (g,aZ9)=>match E.nat g aZ9 with
   |some v=>match fv with
    |.v _=>some (.v v,s)
    |_=>none
   |none=>match (match E.wm g || fw with|true=>E.ext g aZ9|false=>zcX E rc g aZ9 s) with
    |some r=>some (r,s)
    |none=>match Ru E rc g aZ9 s with
     |some (r,s')=>some (r,⟨s'.m,s'.nx,Nat.min s.lw s'.lw,s'.yk,s'.an,s'.lg⟩)
     |none=>none
def Lt (E:Env) (q:dz) (f:Nat->AV):Option AV:=match q with
 |.eqs t x y=>match toV (x.ev f),toV (y.ev f) with
  |some a,some b=>match E.seq t a b with
   |some e=>some (.v (.bool e))
   |none=>none
  |_,_=>none
 |_=>none
def DZ (E:Env) (kt:Nat):List (Value × AV)->Bool
 |[]=>true
 |p::l=>match E.F6 kt p.1 with|true=>DZ E kt l|false=>false
def D0 (E:Env) (rc:Rec) (fw:Bool) (q:dz) (f:Nat->AV) (s:XS):Option (AV × XS):=match q with
 |.call g aZ9=>wu E rc fw (g.ev f) (aZ9.map (·.ev f)) s
 |.append sz by_ a b=>match Hx sz by_ s (a.ev f) (b.ev f) with
  |some r=>some r
  |none=>match a.ev f,dv (eI s) (b.ev f) with
   |.sl ex rows,some []=>some (.sl ex rows,s)
   |.sl ex rows,none=>match b.ev f with
    |.v (.slice _ 0 _)=>some (.sl ex rows,s)
    |_=>none
   |_,_=>none
 |.eU kt z c x i=>match x.ev f,toV (i.ev f) with
  |.mp k,some v=>match (eI s).get k with
   |some (.mp es)=>match E.F6 kt v && DZ E kt es with
    |true=>some ((match eU (E.WJ v) es with|some a=>(if c then .bc [a,.v (.bool true)] else a)|none=>(if c then .bc [z,.v (.bool false)] else z)),s)
    |false=>none
   |_=>none
  |_,_=>none
 |.k_ kt x i b=>match x.ev f,toV (i.ev f) with
  |.mp k,some v=>match (eI s).get k with
   |some (.mp es)=>match E.F6 kt v && DZ E kt es,kQ (E.WJ v) es with
    |true,none=>some (.v undef,l5 s k (some (.mp (es++[(v,b.ev f)]))))
    |_,_=>none
   |_=>none
  |_,_=>none
 |q=>match Lt E q f with
  |some r=>some (r,s)
  |none=>ry false q f s
def Rw (E:Env) (rc:Rec) (fw:Bool) (q:dz) (f:Nat->AV) (s:XS):Option (AV × XS):=match HG q f s with
 |some r=>some r
 |none=>D0 E rc fw q f s
def HX (body:Fr->XS->XR):Nat->Fr->XS->Option (Exit × Fr × XS)
 |0,_,_=>none
 |k+1,F,s=>match body F s with
  |.dn ex F' s'=>match ex with
   |.normal=>HX body k F' s'
   |e=>some (e,F',s')
  |_=>none
def aW (s:XS) (W:List (Nat × Option Ob)) (m:Bool):Option XS:=match W,m with
 |[],false=>some s
 |[(k,o)],false=>match ee s.yk k with
  |false=>some (l5 s k o)
  |true=>none
 |[(k,some o)],true=>match Nat.beq k s.nx && !ee s.yk s.nx with
  |true=>some (kG s o)
  |false=>none
 |[(k,some o),(j,none)],true=>match Nat.beq k s.nx && !ee s.yk s.nx && !ee s.yk j with
  |true=>some (kG (l5 s j none) o)
  |false=>none
 |_,_=>none
def HY (s:XS):List Nat->Option XS
 |[]=>some s
 |k::ks=>match HY s ks with
  |some s'=>match ee s'.yk k with
   |false=>some (l5 s' k (some .un))
   |true=>none
  |none=>none
def AN (d:Option Nat):List QI->Bool
 |[]=>false
 |i::l=>match i.q,d with
  |.append _ _ (.t t) _,some d=>match Nat.beq t d with|true=>true|false=>AN (some d) l
  |_,d=>AN d l
def Rx (E:Env) (rc:Rec) (fr:Bool) (q:dz) (f:Nat->AV) (s:XS) (rs:List Nat):Option (AV × (List Nat × List Nat × Bool) × List Nat × XS):=match ru true q f with
 |some r=>some (r,([],[],false),rs,s)
 |none=>match Lt E q f with
  |some r=>some (r,([],[],false),rs,s)
  |none=>match q with
   |.call g aZ9=>match e7 (g.ev f) (aZ9.map (·.ev f)) with
    |some (h,aZ9)=>match (match fr,ee s.yk s.nx with|true,false=>WL E rc h aZ9|_,_=>none) with
     |some (sz,len,rows,fz,ex)=>some (.ob s.nx sz 0 len none,([],[s.nx],true),rs,kG s (.arr sz rows fz ex))
     |none=>match DY E rc h aZ9 with
      |some r=>some (r,([],[],false),rs,s)
      |none=>none
    |none=>none
   |.append sz by_ a b=>match NA sz by_ s (a.ev f) (b.ev f) with
    |some (r,d)=>match aW s d.W d.m with
     |some s'=>some (r,d.ns,rs,s')
     |none=>none
    |none=>none
   |q=>match dq q f (eI s) rs with
    |some (r,d,nb)=>match aW s d.W d.m with
     |some s'=>some (r,d.ns,nb,s')
     |none=>none
    |none=>none
def NR:QC->Option (Option (List QI) × List QI)
 |.skip=>some (none,[])
 |.bz false l=>some (none,l)
 |.seq (.bz false a) (.bz false l)=>some (some a,l)
 |_=>none
def HZ (rc:Rec) (n:Nat) (qa qb:QC) (F:Fr) (s:XS):XR:=match NR qa with
 |some (none,l)=>rc true n (.bz false l [.seq qb]) F s
 |some (some a,l)=>match rc true n (.bz false a []) F s with
  |.dn .normal F1 s1=>match Nat.beq s1.lg.length s.lg.length with
   |true=>rc true n (.bz false l [.seq qb]) F1 s1
   |false=>.no
  |_=>.no
 |none=>.no
def vQ (rc:Rec) (n B N:Nat) (qa:QC) (qb:QC) (ps:List Nat) (t:Tr AV):List (List AV × Bool)->XS->Option (Exit × XS)
 |[],s=>some (.normal,s)
 |(x,b)::rest,s=>match Nat.beq x.length ps.length && fT (iT 60) x with
  |true=>match HZ rc n qa qb ⟨wG t (ps.zip x),[]⟩ s with
   |.dn ex F s2=>match F.ds,Rf B N s2 with
    |[],some s3=>match ex,b,rest with
     |.normal,true,rest=>vQ rc n B N qa qb ps t rest s3
     |.ret,false,[]=>some (.ret,s3)
     |.exit id,false,[]=>some (.exit id,s3)
     |_,_,_=>none
    |_,_=>none
   |_=>none
  |false=>none
def WM (rc:Rec) (n B N:Nat) (qa:QC) (qb:QC) (ps:List Nat) (t:Tr AV):List (List AV × Bool)->XS->Nat->Option Nat
 |[],s,i=>none
 |(x,b)::rest,s,i=>match HZ rc n qa qb ⟨wG t (ps.zip x),[]⟩ s with
  |.dn ex F s2=>match ex with
   |.normal=>match Rf B N s2 with
    |some s3=>WM rc n B N qa qb ps t rest s3 (i+1)
    |none=>none
   |_=>some i
  |_=>none
def H0 (E:Env) (rc:Rec) (g:Nat) (aZ9:List AV) (an:Nat):Option (List (List AV × Bool)):=match Ru E rc g aZ9 ⟨.nil,1,1,some 0,an,[]⟩ with
 |some (_,s)=>some s.lg.reverse
 |none=>none
def H2 (B:Nat):List (Nat × AV)->Bool
 |[]=>true
 |p::l=>match sS B 60 p.2 with|true=>H2 B l|false=>false
def H3 (B:Nat) (s:XS):List (Nat × Option Ob)->Bool
 |[]=>true
 |p::l=>match Nat.blt p.1 B && (match p.2 with|some o=>Ny B o|none=>true) with|true=>H3 B s l|false=>false
def NS (rc:Rec) (E:Env) (gid:Nat) (aZ9:List AV) (R:List (List AV × Bool)->Option (Exit × XS)) (C:List (List AV × Bool)->Option Nat):Option (Exit × XS):=match H0 E rc gid aZ9 1000000 with
 |some lg=>match R lg with
  |some q=>some q
  |none=>match C lg with
   |some i=>match H0 E rc gid aZ9 i with
    |some lg=>R lg
    |none=>none
   |none=>none
 |none=>none
def NT (E:Env) (rc:Rec) (n:Nat) (a:AV) (ps:List Nat) (qa qb:QC) (F:Fr) (s:XS):Option (Exit × Fr × XS):=match a with
 |.fn (.func gid) first cap =>
  match fT (iT 60) first && fT (iT 60) cap && ps.all (Nat.blt · n) && !ee s.yk s.nx && F.ds.all (fun d=>Nat.blt d.k (s.nx+1)) && H2 (s.nx+1) (toLk F.t) && H3 (s.nx+1) s (toLk (kG s .df).m) && nq (s.nx+1) [] (Co (kG s .df)) && (match s.yk with|some k=>Nat.blt k (s.nx+1)|none=>true) with
  |true =>
   match NS rc E gid (first++[.yl 0]++cap) (fun lg=>vQ rc n (s.nx+1) (s.nx+41) qa qb ps F.t lg ⟨(kG s .df).m,s.nx+41,0,s.yk,s.an,s.lg⟩) (fun lg=>WM rc n (s.nx+1) (s.nx+41) qa qb ps F.t lg ⟨(kG s .df).m,s.nx+41,0,s.yk,s.an,s.lg⟩ 0) with
   |some (ex,s')=>some (ex,⟨F.t,s.nx::F.ds⟩,s')
   |none=>none
  |false=>none
 |_=>none
def NU (x:QO) (F:Fr) (s:XS):Option (Fr × XS):=match x with
 |.t t=>match ew F.t t with
  |.fn f first cap=>match fT (iT 60) first && fT (iT 60) cap with
   |true=>none
   |false=>match HA s [.fn f first cap] with
    |some ([a],s')=>some (⟨put F.t t a,F.ds⟩,s')
    |_=>none
  |_=>none
 |_=>none
def Ry (s s':XS):Nat:=match Nat.beq s'.lg.length s.lg.length with|true=>s'.lw|false=>0
def kV (E:Env) (rc:Rec) (rd:Bool) (n:Nat):QF->Fr->XS->XR
 |.run c K,F,s=>match c with
  |.skip=>.mr (.out .normal K) F s
  |.bz true l=>.no
  |.bz false l=>.mr (.bz false l K) F s
  |.dM V l=>match HY s (gS l s.nx) with
   |some s'=>.mr (.dM (s.nx+(gS l s.nx).length) V [] (gS l s.nx) l K) F ⟨s'.m,s.nx+(gS l s.nx).length,s'.lw,s'.yk,s'.an,s'.lg⟩
   |none=>.no
  |.seq a c=>.mr (.run a (.seq c::K)) F s
  |.cond x a c=>match x.ev (ew F.t) with
   |.v (.bool true)=>.mr (.run a K) F s
   |.v (.bool false)=>.mr (.run c K) F s
   |_=>.no
  |.block id c=>.mr (.run c (.qE id::K)) F s
  |.scope c=>.mr (.run c (.uU::K)) F s
  |.loop c=>match HX (fun F s=>rc rd n (.run c []) F s) 400 F s with
   |some (ex,F',s')=>.mr (.out ex K) F' s'
   |none=>.no
  |.exit id=>.mr (.out (.exit id) K) F s
  |.ret=>.mr (.out .ret K) F s
  |.uj x ps a c=>match NU x F s with
   |some (F',s')=>.mr (.run (.uj x ps a c) K) F' s'
   |none=>match rd,NT E rc n (x.ev (ew F.t)) ps a c F s with
    |false,some (ex,F',s')=>.mr (.out ex K) F' s'
    |_,_=>.no
  |_=>.no
 |.out ex K,F,s=>match K with
  |[]=>.dn ex F s
  |.seq c::K=>match ex with
   |.normal=>.mr (.run c K) F s
   |e=>.mr (.out e K) F s
  |.qE id::K=>match ex with
   |.exit j=>match Nat.beq j id with
    |true=>.mr (.out .normal K) F s
    |false=>.mr (.out (.exit j) K) F s
   |e=>.mr (.out e K) F s
  |.uU::K=>match ex with
   |.goto _=>.no
   |e=>.mr (.out e K) F s
 |.bz true l K,F,s=>.no
 |.bz false l K,F,s=>match l with
  |[]=>.mr (.out .normal K) F s
  |i::l=>match cb (ew F.t) i.g with
   |some true=>match Rw E rc (AN i.d l) i.q (ew F.t) s with
    |some (r,s')=>.mr (.bz false l K) ⟨ub i.d F.t r,F.ds⟩ s'
    |none=>.no
   |some false=>.mr (.bz false l K) ⟨ub i.d F.t (.v undef),F.ds⟩ s
   |none=>.no
 |.dM B V lg rs l K,F,s=>match l with
  |[]=>match NJ V lg with
   |true=>.mr (.out .normal K) F s
   |false=>.no
  |i::l=>match cb (ew F.t) i.g with
   |some true=>match (match DV i.q || inV lg.length V with|true=>Rx E rc (AN i.d l) i.q (ew F.t) s rs|false=>none) with
    |some (r,ns,nb,s')=>match Bt ns with
     |none=>.mr (.dM B V (lg++[ns]) nb l K) ⟨ub i.d F.t r,F.ds⟩ s'
     |some _=>.no
    |none=>match DV i.q with
     |true=>.no
     |false=>match Rw E rc (AN i.d l) i.q (wM (zi (mn i.q)) (ew F.t)) ⟨s.m,s.nx,s.nx,s.yk,s.an,s.lg⟩ with
      |some (r,s')=>.mr (.dM B V (lg++[([Ry s s'],[],true)]) rs l K) ⟨ub i.d F.t r,F.ds⟩ ⟨s'.m,s'.nx,Nat.min s.lw s'.lw,s'.yk,s'.an,s'.lg⟩
      |none=>.no
   |some false=>.mr (.dM B V (lg++[([],[],false)]) rs l K) ⟨ub i.d F.t (.v undef),F.ds⟩ s
   |none=>.no
def Lu (f:QF->Fr->XS->XR):Nat->QF->Fr->XS->XR
 |0,c,t,s=>f c t s
 |k+1,c,t,s=>match Lu f k c t s with
  |.mr c t s=>Lu f k c t s
  |r=>r
def H4 (E:Env):Nat->Rec
 |0=>fun _ _ _ _ _=>.no
 |m+1=>fun rd n c F s=>Lu (kV E (H4 E m) rd n) 14 c F s
end Go.Proofs.YtgphljokbodciaaGreat
