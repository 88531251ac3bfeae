import Derived.Test.YtgphljokbodciaaGreatS28
namespace Go.Proofs.YtgphljokbodciaaGreat
set_option linter.unusedVariables false
set_option linter.unusedSimpArgs false
open Go.RowKit
section
set_option maxRecDepth 100000
attribute [local irreducible] ah aV ad ab
def l6 (P:Program) (w0:World) (so:List (Nat × Ob)) (N:Nat) (F:AV) (xs:List AV) (b:Bool):Prop:=∃ gid args,e7 F xs=some (gid,args)/\(∀ a ∈ args,cD N a)/\aV P w0 gid args (aE so N) (.v (.bool b)) (aE so N)
def ba (N:Nat) (o:Ob):Prop:=jF N o/\∀ J,o ≠ .fo J
section
variable {P:Program}{w0:World}{dr:Bool}{N:Nat}{so:List (Nat × Ob)}{T:ae}{α:AA}
theorem ad.vE {f:QO}{qs:List QO}{F:AV}{l:List AV}{b:Bool}(h:l6 P w0 so N F l b) (hf:f.ev α.tm=F) (ha:qs.map (·.ev α.tm)=l) (hT:rh so N T):ad P w0 dr (.call f qs) α T (.v (.bool b)) T:=by
 obtain⟨gid,args,h1,h2,h3⟩:=h
 exact ad.gN h3 (by rw [hf,ha];exact h1) hT h2 .v
theorem TZ {o0 o1 o2:Ob}(h0:T.get 0=some o0) (h1:T.get 1=some o1) (h2:T.get 2=some o2) (hn:Nat.ble 3 T.nx=true) (k0:ba 3 o0) (k1:ba 3 o1) (k2:ba 3 o2):rh [(0,o0),(1,o1),(2,o2)] 3 T:=by
 refine⟨Nat.le_of_ble_eq_true hn,fun j o h=>?_,fun j hj=>?_⟩
 ·match j,h with
  |0,h=>obtain rfl:=Option.some.inj h;exact⟨by decide,h0,k0.1,k0.2⟩
  |1,h=>obtain rfl:=Option.some.inj h;exact⟨by decide,h1,k1.1,k1.2⟩
  |2,h=>obtain rfl:=Option.some.inj h;exact⟨by decide,h2,k2.1,k2.2⟩
  |j+3,h=>cases h
 ·match j,hj with
  |0,_=>exact⟨_,rfl⟩
  |1,_=>exact⟨_,rfl⟩
  |2,_=>exact⟨_,rfl⟩
end
section
variable {w0:World}{ρ:Hd}
theorem vv {o0 o1 o2:Ob}(k0:ba 3 o0) (k1:ba 3 o1) (k2:ba 3 o2) (p:Int->Bool) (l:List Int) (gid:FuncId) (fs cs:List AV) (hl:l.length<=1099511627776) (hF:cD 3 (.fn (.func gid) fs cs)) (h:∀ x ∈ l,l6 Tryz.prog w0 [(0,o0),(1,o1),(2,o2)] 3 (.fn (.func gid) fs cs) [iv x] (p x)) :
  aV Tryz.prog w0 418 [bY ρ bJ false l,.fn (.func gid) fs cs] (aE [(0,o0),(1,o1),(2,o2)] 3) (iv (cE p l 0)) (aE [(0,o0),(1,o1),(2,o2)] 3):=by
 obtain⟨R,hR⟩:∃ R,R=cE p l 0:=⟨_,rfl⟩
 rw [<-hR]
 refine aD.dw 3 3 _ Qi (by simp [Tryz.ntmps418]) rfl rfl ?_
 refine gq jd ?_
 repeat' (first
  |(refine az fun m hm=>?_;(try rw [af] at hm);refine gq jd ?_)
  )
 refine ab.aP (σ:=Int) 3 3 [] (fun i=>[(0,bY ρ bJ false l),(1,.fn (.func gid) fs cs),(7,.v (.int .i64 m)),(8,.v (.int .i64 i))]) [] (fun _=>[(0,o0),(1,o1),(2,o2)])
  (fun i=>∃ k:Nat,i=k/\k<=l.length/\R=cE p (l.drop k) k) (fun i=>l.length - i.toNat) 0 ⟨0,rfl,by simp,by simpa using hR⟩ rfl ⟨⟨.aC rfl (Pure.bM (bR _)),.aC rfl hF,.aC rfl .v,.aC rfl .v,trivial⟩,rfl,⟨.inl ⟨_,rfl,.same k0.1⟩,.inl ⟨_,rfl,.same k1.1⟩,.inl ⟨_,rfl,.same k2.1⟩,trivial⟩,rfl,rfl,rfl⟩ ?_
 rintro i ⟨k,hi,hk,hp⟩
 clear hR
 refine gq jd ?_
 by_cases au:k < l.length
 ·obtain⟨x,hx,aQ⟩:=aA au
  rw [aQ,cE] at hp
  have hf:=h x (aZ hx)
  obtain⟨B,hB⟩:∃ B,B=p x:=⟨_,rfl⟩
  rw [<-hB] at hp hf
  repeat' (first
   |(refine ab.op rfl (ad.ind rfl rfl (ay (l:=l) hi hx) (aw fun _=>rfl)) ?_;refine gq jd ?_)
   |(refine ab.bif rfl (ad.vE hf rfl rfl (TZ rfl rfl rfl rfl k0 k1 k2)) (fun _=>?_) (fun _=>?_)<;>refine gq jd ?_)
   |(refine bq (fun hb=>?_) (fun hb=>?_)<;>(try simp only [aq] at hb)<;>(first|refine gq jd ?_))
   |(refine aS fun _ _=>?_;refine gq jd ?_)
   |(refine ab.ao ?_;refine gq jd ?_)
   |(refine ab.bK ?_;refine gq jd ?_)
   |(refine fq ?_))
  all_goals first
   |(exfalso;omega)
   |(rw [if_pos (by assumption)] at hp;rw [show R=i by omega];exact⟨[],.aC .v,⟨.inl ⟨_,rfl,.same k0.1⟩,.inl ⟨_,rfl,.same k1.1⟩,.inl ⟨_,rfl,.same k2.1⟩,trivial⟩,rfl⟩)
   |(rw [if_neg (by rw [show B=false by assumption];simp)] at hp
     refine ab.aK (σ:=Int) _ [] ?_ ?_ ⟨⟨.aC rfl (Pure.bM (bR _)),.aC rfl hF,.aC rfl .v,.aC rfl .v,trivial⟩,rfl,⟨.inl ⟨_,rfl,.same k0.1⟩,.inl ⟨_,rfl,.same k1.1⟩,.inl ⟨_,rfl,.same k2.1⟩,trivial⟩,rfl,rfl,rfl⟩
     ·exact⟨k+1,by omega,by omega,hp⟩
     ·omega)
 ·skip
  repeat' (first
   |(refine bq (fun hb=>?_) (fun hb=>?_)<;>(try simp only [aq] at hb)<;>(first|refine gq jd ?_))
   |(refine ab.ao ?_;refine gq jd ?_)
   |(refine fq ?_))
  all_goals first
   |(exfalso;omega)
   |(rw [show R=-1 by rw [hp,List.drop_eq_nil_of_le (by omega)];rfl];exact⟨[],.aC .v,⟨.inl ⟨_,rfl,.same k0.1⟩,.inl ⟨_,rfl,.same k1.1⟩,.inl ⟨_,rfl,.same k2.1⟩,trivial⟩,rfl⟩)
end
end
section
variable {P:Program}{w0:World}{n:Nat}{o:Oper}{α:AA}{S S':ae}{r:AV}
theorem zb (w:World) (t t2 ty e:TypeId) (i:TypeInfo) (z:Value) {kk k:IntKind}(ht:P.underlying t=some (.slice e)) (fh:P.underlying t2=some (.int kk)) (hi:P.info? e=some i) (hz:i.zero=some z) (B:Option Addr) (n:Nat) (hs:0 < i.size)
  (h0:0 < n) (h63:(n:Int)<=9223372036854775807) (h48:n*i.bytes<=281474976710656) :
  (Builtin.append_ #[t,t2] ty #[.slice B 0 0,.int k n]).run P w =
   .ok (.slice (some ⟨w.heap.size,0,none⟩) n (grownCap w n 0 e)) (w.drew.alloc (.cells (Builtin.zeroCells z.cells n++Builtin.zeroCells z.cells (grownCap w n 0 e - n)) e)):=by
 have hn:n ≠ 0:=by omega
 have Wi:i.size ≠ 0:=by omega
 have afM:¬ (9223372036854775807 < (n:Int)):=by omega
 have afN:¬ (281474976710656 < Builtin.nextslicecap n 0*i.bytes):=by rw [nextslicecap_zero h0];omega
 have hw:IntKind.i64.wrap (n:Int)=n:=by rw [IntKind.wrap_i64];omega
 have afO:¬ (n:Int) < 0:=by omega
 have afP:¬ (281474976710656 < (n:Int)*i.bytes):=by
  intro h
  have:(281474976710656:Int) < ((n*i.bytes:Nat):Int):=by rw [Int.natCast_mul];exact h
  omega
 have DD:∀ w:World,(Builtin.firstCells i.size 0 (.slice B 0 0)).run P w=.ok #[] w:=fun w=>by
  cases B with
  |none=>simp [Builtin.firstCells]
  |some b=>simpa using run_firstCells_some (P:=P) (w:=w) i.size 0 b 0 0 [] (by simp) (fun j v h=>by simp at h)
 simp [Builtin.append_,run_underlying ht,run_underlying fh,sizeOf,typeInfo,zeroValue,hi,hz,asInt,asIntOf,hw,afO,afP,hn,Wi,afM,afN,Question.forced,DD,newRow,grownCap]
 intro h
 rcases Nat.mul_eq_zero.1 h with h|h
 ·omega
 ·omega
theorem NC {z:List AV}{by_:Nat}{a b:QO}{o:Op}(h:res P.toTables o=some (.Ax z by_ a b)):∃ c t t2 u v e kk zv sz,o=.call c/\c.callee=.builtin .append/\c.argTypes=#[t,t2]/\c.args=#[u,v]/\a=qo u/\b=qo v/\P.underlying t=some (.slice e)/\P.underlying t2=some (.int kk)/\cY P e=some zv /\
  cS P e=some sz/\gm P e=some by_/\zv.cells.size=sz/\0 < by_/\z=zv.cells.toList.map bV:=by
 have two:∀ {β:Type}{x y:β}{l:Array β},l.toList=[x,y]->l=#[x,y]:=fun {β x y l} h=>by rw [<-Array.toArray_toList (xs:=l),h]
 cases o<;>simp only [res,b_,ec,kI,gV,jR] at h<;>(repeat' split at h)<;>(try cases h)
 rename_i hb
 simp only [Bool.and_eq_true] at hb
 exact⟨_,_,_,_,_,_,_,_,_,rfl,by assumption,two (by assumption),two (by assumption),rfl,rfl,ly (by assumption),by assumption,by assumption,by assumption,by assumption,Nat.eq_of_beq_eq_true hb.1,dZ hb.2,rfl⟩
theorem ad.aaV {z:List AV}{by_:Nat}{a b:QO}{k:IntKind}{m:Int}(h1:a.ev α.tm=.sl true []) (h2:b.ev α.tm=.v (.int k m)) (h0:0 < m) (h4:m*by_<=35184372088832) (hz:0 < z.length) :
  ad P w0 false (.Ax z by_ a b) α S (.ob S.nx z.length 0 m.toNat none) (S.new (.arr z.length (List.replicate m.toNat z) 0 false)):=ad.run fun n o hr=>by
 obtain⟨c,t,t2,u,v,e,kk,zv,sz,ho,hc,fC,bD,rfl,rfl,ht,fh,Lc,hs,j4,ld,gj,rfl⟩:=NC hr
 have Wj:(zv.cells.toList.map bV).length=sz:=by simp [ld]
 rw [Wj] at hz ⊢
 rw [aU] at h1 h2
 intro A g q w hS hA
 have g1:=hA.ev u
 have g2:=hA.ev v
 rw [h1] at g1
 rw [h2] at g2
 obtain⟨B,cc,e1,_,l4⟩:=nJ g1
 have xb:cc=0:=by simpa using l4 rfl
 subst xb
 have e2:=cd g2
 obtain⟨i,hi,bI⟩:=iI hs
 have pK:i.zero=some zv:=by unfold cY at Lc;rw [hi] at Lc;simpa using Lc
 have Bn:i.bytes=by_:=by unfold gm at j4;rw [hi] at j4;simpa using j4
 obtain⟨m',rfl⟩:∃ m':Nat,m=m':=⟨m.toNat,by omega⟩
 have o7:0 < m':=by omega
 have h4':m'*by_<=35184372088832:=by
  have:((m'*by_:Nat):Int)<=35184372088832:=by rw [Int.natCast_mul];exact h4
  omega
 have hmul:m'<=35184372088832:=Nat.le_trans (Nat.le_mul_of_pos_right _ gj) h4'
 have cu:=zb (P:=P) w t t2 o.type e i zv (k:=k) ht fh hi pK B m' (by omega) o7 (by omega) (by rw [Bn];omega)
 have vF:=grownCap_ge w m' 0 e
 obtain⟨Rh,Wl⟩:=hS.drew
 have ri:∀ q,¬ g.fz w.heap.size q:=fun q hf=>absurd (hS.cK _ _ hf) (Nat.lt_irrefl _)
 obtain⟨hE,cZ⟩:=Wl.new (.cells (Builtin.zeroCells zv.cells m'++Builtin.zeroCells zv.cells (grownCap w m' 0 e - m')) e) (.arr sz (List.replicate m' (zv.cells.toList.map bV)) 0 false) (grownCap w m' 0 e) (fun J=>by simp) (fun hL=>by
  refine⟨_,e,dy,?_,by simpa using vF,fun h=>by simp at h,fun p row hr=>?_,Nat.zero_le _,fun q=>⟨fun h=>absurd h (ri q),fun h=>by simp at h⟩⟩
  ·simp only [Array.size_append,size_zeroCells,ld]
   rw [<-Nat.add_mul]
   congr 1
   omega
  ·obtain⟨gY,rfl⟩:=List.getElem?_eq_some_iff.1 hr
   simp only [List.length_replicate] at gY
   simp only [List.getElem_replicate]
   refine⟨Wj,fun j b' hj=>?_⟩
   simp only [List.getElem?_map,Option.map_eq_some_iff] at hj
   obtain⟨y,hy,rfl⟩:=hj
   have vt:j < sz:=by
    have:=(List.getElem?_eq_some_iff.1 hy).1
    simp at this
    omega
   refine⟨y,?_,j3 y⟩
   have au:p*sz+j < m'*sz:=jQ gY vt
   have iE:j < zv.cells.size:=by omega
   have e3:(p*sz+j) % zv.cells.size=j:=by
    rw [ld,Nat.mul_comm,Nat.mul_add_mod]
    exact Nat.mod_eq_of_lt vt
   rw [Array.getElem?_append_left (by rw [size_zeroCells,ld];exact au)]
   unfold Builtin.zeroCells
   rw [Array.getElem?_map,Array.getElem?_range,if_pos (by rw [ld];exact au)]
   simp only [Option.map_some,e3]
   rw [getElem!_pos zv.cells j iE,<-hy,Array.getElem?_toList,Array.getElem?_eq_getElem iE])
 have hx:(execOp q.eval o).run P w=.ok (.value (.slice (some ⟨w.heap.size,0,none⟩) m' (grownCap w m' 0 e))) (w.drew.alloc (.cells (Builtin.zeroCells zv.cells m'++Builtin.zeroCells zv.cells (grownCap w m' 0 e - m')) e)):=by
  have hx:(execOp q.eval o).run P w=((Builtin.append_ #[t,t2] o.type #[q.eval u,q.eval v]).run P w).andThen fun v w'=>.ok (.value v) w':=by
   simp [execOp,ho,resolve,hc,fC,bD,invoke,builtin]
  rw [hx,e1,e2]
  simp only [List.length_nil]
  rw [cu]
  rfl
 refine⟨_,_,_,.inl hx,?_,cZ,Rh.trans hE⟩
 have:=aL.ob (g:=g.new S.nx w.drew.heap.size (grownCap w m' 0 e)) (w:=w.drew.alloc (.cells (Builtin.zeroCells zv.cells m'++Builtin.zeroCells zv.cells (grownCap w m' 0 e - m')) e))
  (k:=S.nx) (sz:=sz) (off:=0) (len:=m') (c:=grownCap w m' 0 e) (cx:=none) (.inr rfl) (fun m h=>by cases h) (by rw [Nat.zero_add];exact Nat.le_of_eq (aG _ _ _).symm) (fun _=>by rw [Nat.zero_add];exact (aG _ _ _).symm) vF
 rw [show (g.new S.nx w.drew.heap.size (grownCap w m' 0 e)).ob S.nx=w.heap.size from aG _ _ _,Nat.zero_mul] at this
 exact this
theorem T5 {a:QO}{o:Op}(h:res P.toTables o=some (.cap a)):∃ c t u e,o=.call c/\c.callee=.builtin .cap/\c.argTypes=#[t]/\c.args=#[u]/\a=qo u/\P.underlying t=some (.slice e):=by
 cases o<;>simp only [res,b_] at h<;>(repeat' split at h)<;>(try cases h)
 exact⟨_,_,_,_,rfl,by assumption,toList_one (by assumption),toList_one (by assumption),rfl,by assumption⟩
def ND:AV->Option Nat
 |.sl true rows=>some rows.length
 |.ob _ _ _ _ (some c)=>some c
 |_=>none
theorem ad.cap {x:QO}{m:Nat}(hx:ND (x.ev α.tm)=some m):ad P w0 false (.cap x) α S (.v (.int .i64 m)) S:=ad.run fun n o hr=>by
 obtain⟨c,t,u,e,ho,hc,fC,bD,rfl,hu⟩:=T5 hr
 rw [aU] at hx
 refine bg.quiet fun A g q w hS hA=>?_
 have h1:=hA.ev u
 have key:∃ B l,q.eval u=.slice B l m:=by
  unfold ND at hx
  split at hx
  ·rename_i rows e1
   rw [e1] at h1
   obtain rfl:=Option.some.inj hx
   obtain⟨B,cc,e2,_,l4⟩:=nJ h1
   rw [l4 rfl] at e2
   exact⟨_,_,e2⟩
  ·rename_i k sz off len c' e1
   rw [e1] at h1
   obtain rfl:=Option.some.inj hx
   obtain⟨cc,e2,_,l4,_⟩:=gA h1
   rw [l4 _ rfl] at e2
   exact⟨_,_,e2⟩
  ·cases hx
 obtain⟨B,l,e2⟩:=key
 refine⟨_,?_,.v⟩
 simp [execOp,ho,resolve,hc,fC,bD,invoke,builtin,e2,Builtin.cap_,run_underlying hu,goInt]
end
def HG (q:dz) (f:Nat->AV) (s:XS):Option (AV × XS):=match q with
 |.Ax z by_ a b=>match a.ev f,b.ev f with
  |.sl true [],.v (.int _ m)=>match decide (0 < m/\m*by_<=35184372088832) && Nat.blt 0 z.length && !ee s.yk s.nx with
   |true=>some (.ob s.nx z.length 0 m.toNat none,kG s (.arr z.length (List.replicate m.toNat z) 0 false))
   |false=>none
  |_,_=>none
 |.cap x=>match ND (x.ev f) with
  |some m=>some (.v (.int .i64 m),s)
  |none=>none
 |q=>DC q f s
section
variable {P:Program}{w0:World}{s s':XS}{r:AV}
theorem HH {q:dz}{f:Nat->AV}{df:List DE}(h:HG q f s=some (r,s')):(∀ J,ad P w0 false q ⟨f,df⟩ (den J s) r (den J s'))/\dX s s'/\s'.lg=s.lg:=by
 cases q with
 |Ax z by_ a b =>
  simp only [HG] at h
  split at h
  ·rename_i k m ha hb
   split at h
   ·rename_i hc
    simp only [Bool.and_eq_true,Bool.not_eq_true'] at hc
    obtain⟨⟨h1,h2⟩,h3⟩:=hc
    have h1:=of_decide_eq_true h1
    simp only [Option.some.injEq,Prod.mk.injEq] at h
    obtain⟨rfl,rfl⟩:=h
    refine⟨fun J=>?_,.nw,rfl⟩
    rw [iO h3]
    exact ad.aaV ha hb h1.1 h1.2 (dZ h2)
   ·cases h
  ·cases h
 |cap x =>
  simp only [HG] at h
  split at h
  ·rename_i m hm
   simp only [Option.some.injEq,Prod.mk.injEq] at h
   obtain⟨rfl,rfl⟩:=h
   exact⟨fun J=>ad.cap hm,.refl _,rfl⟩
  ·cases h
 |_=>exact Ld h
end
section
variable {P:Program}{w0:World}{n B:Nat}{α aB:AA}{S S':ae}{r:AV}{ops:Array Oper}{D:Nat->Dt × Option Nat}
def DF (P:Program) (w0:World) (n:Nat) (ops:Array Oper) (B:Nat) (i:Nat) (d:Dt × Option Nat) (α:AA) (S:ae) (α1:AA) (S1:ae):Prop:=match d.2 with
 |none=>ml P w0 n ops B i d.1 α S α1 S1
 |some l=>∃ o,ops[i]?=some o/\(match o.dst with|some d=>Nat.blt d n|none=>true)=true/\pA ops i=false/\B<=S.nx/\S.nx<=S1.nx/\(∀ k,k < l->S1.get k=S.get k) /\
   (o.guard=none\/∃ j want,o.guard=some (j,want)/\m6 ops α j=some (some want))/\∃ r,α1=α.put o.dst r/\eB P w0 n o (α.only (dg o)) S r S1
def Bs (x:List Nat × List Nat × Bool) (l:Nat):Bool:=match x with
 |(F,[],false)=>F.all (Nat.blt · l)
 |_=>false
def xd (d:Dt × Option Nat):List Nat × List Nat × Bool:=match d.2 with
 |none=>d.1.ns
 |some l=>([l],[],true)
def Bt (x:List Nat × List Nat × Bool):Option Nat:=match x with
 |([l],[],true)=>some l
 |_=>none
def Ay (d e:Dt × Option Nat):Prop:=match d.2,e.2 with
 |none,none=>dj d.1.ns e.1.ns=true
 |some l,none=>Bs e.1.ns l=true
 |none,some l=>Bs d.1.ns l=true
 |some _,some _=>False
theorem Az {d:Dt}{l:Nat}{T T':ae}(h:Bs d.ns l=true) (ht:∀ k,k < l->T'.get k=T.get k) (ha:lr T d.F):lr T' d.F/\d.W=[]/\d.m=false:=by
 obtain⟨F,W,m⟩:=d
 unfold Bs Dt.ns at h
 cases W with
 |cons=>cases h
 |nil =>
  cases m with
  |true=>cases h
  |false =>
   refine⟨fun p hp=>?_,rfl,rfl⟩
   have:=List.all_eq_true.1 h p.1 (List.mem_map.2 ⟨p,hp,rfl⟩)
   rw [ht _ (dZ this)]
   exact ha p hp
theorem Bu {oi oj:Oper}(h:∀ d,oi.dst=some d->d ∉ oj.looksAt ops):(∀ e,oi.dst=some e->e ∉ dg oj)/\∀ q want,oj.guard=some (q,want)->∀ e,oi.dst=some e->(ops[q]?).bind (·.dst) ≠ some e:=by
 refine⟨fun e he hm=>h e he (o8 hm),fun q want hg e he h3=>h e he (List.mem_append.2 (.inr ?_))⟩
 rw [hg]
 simp only
 rw [h3]
 simp
theorem AB {o:Oper}{d:Option Tmp}{a:AV}(h2:∀ q want,o.guard=some (q,want)->∀ e,d=some e->(ops[q]?).bind (·.dst) ≠ some e) :
  (o.guard=none\/∃ j want,o.guard=some (j,want)/\m6 ops (α.put d a) j=some (some want)) ↔ (o.guard=none\/∃ j want,o.guard=some (j,want)/\m6 ops α j=some (some want)):=by
 constructor
 ·rintro (hg|⟨q,want,hg,hy⟩)
  ·exact .inl hg
  ·exact .inr ⟨q,want,hg,by rw [<-lC (h2 q want hg)];exact hy⟩
 ·rintro (hg|⟨q,want,hg,hy⟩)
  ·exact .inl hg
  ·exact .inr ⟨q,want,hg,by rw [lC (h2 q want hg)];exact hy⟩
theorem DF.swap {i j:Nat}{di lD:Dt × Option Nat}{oi oj:Oper}{α1 sb:AA}{S1 S2:ae}(hi:ops[i]?=some oi) (hj:ops[j]?=some oj) (kJ:oi.apart ops oj=true)
  (hd:Ay di lD) (h:DF P w0 n ops B i di α S α1 S1) (k:DF P w0 n ops B j lD α1 S1 sb S2) :
  ∃ rA vG,DF P w0 n ops B j lD α S rA vG/\DF P w0 n ops B i di rA vG sb S2:=by
 obtain⟨di,xi⟩:=di
 obtain⟨lD,xj⟩:=lD
 obtain⟨e1,e2,e3⟩:=Oper.apart_spec kJ
 obtain⟨l1,l2⟩:=Bu e1
 obtain⟨m1,m2⟩:=Bu e3
 have bH:∀ t,oj.dst=some t->oi.dst ≠ some t:=fun t ht h'=>e2 t h' ht
 cases xi with
 |none =>
  cases xj with
  |none=>exact ml.swap hi hj kJ hd h k
  |some l =>
   have hd:Bs di.ns l=true:=hd
   have h:ml P w0 n ops B i di α S α1 S1:=h
   obtain⟨l7,a,gY,zc,uL,fm,hB⟩:=h.shape
   obtain rfl:l7=oi:=by rw [hi] at gY;exact (Option.some.inj gY).symm
   obtain⟨_,hW,hM⟩:=Az hd (T:=S) (T':=S) (fun _ _=>rfl) uL
   have fm:S1=S:=by rw [fm,hW,hM];exact cO
   subst fm
   obtain⟨o,ho,hn,Le,Ri,pI,hold,hg,r,NF,bC⟩:=k
   obtain rfl:o=oj:=by rw [hj] at ho;exact (Option.some.inj ho).symm
   subst zc
   rw [lE l1] at bC
   rw [AB l2] at hg
   refine⟨α.put o.dst r,S2,⟨o,hj,hn,Le,Ri,pI,hold,hg,r,rfl,bC⟩,?_⟩
   obtain⟨AD,_,_⟩:=Az hd (T:=S1) (T':=S2) hold uL
   have h1:=(h.anyS (T:=S2) (Nat.le_trans Ri pI) AD (fun e=>by rw [hM] at e;cases e)).frame (d:=o.dst) (a:=r) fun o2 n_ e he=>by
    obtain rfl:o2=l7:=by rw [hi] at n_;exact (Option.some.inj n_).symm
    exact⟨e3 e he,fun h3=>e2 e h3 he⟩
   rw [show dQ S2 di.W di.m=S2 by rw [hW,hM];exact cO] at h1
   rw [NF]
   exact h1
 |some l =>
  cases xj with
  |some l'=>exact hd.elim
  |none =>
   have hd:Bs lD.ns l=true:=hd
   obtain⟨o,ho,hn,Le,hB,pI,hold,hg,a,zc,bC⟩:=h
   obtain rfl:o=oi:=by rw [hi] at ho;exact (Option.some.inj ho).symm
   subst zc
   have k:ml P w0 n ops B j lD (α.put o.dst a) S1 sb S2:=k
   obtain⟨oa,b,lZ,NF,uL,l8,_⟩:=k.shape
   obtain rfl:oa=oj:=by rw [hj] at lZ;exact (Option.some.inj lZ).symm
   obtain⟨AD,hW,hM⟩:=Az hd (T:=S1) (T':=S) (fun k hk=>(hold k hk).symm) uL
   have l8:S2=S1:=by rw [l8,hW,hM];exact cO
   subst l8 NF
   have kj:ml P w0 n ops B j lD α S (α.put oa.dst b) S:=by
    obtain⟨o2,n_,s_,ca,q0,q1,q2,hk⟩:=k.anyS (T:=S) hB AD (fun e=>by rw [hM] at e;cases e)
    obtain rfl:o2=oa:=by rw [hj] at n_;exact (Option.some.inj n_).symm
    have inj:∀ x y:AV,(α.put o.dst a).put o2.dst x=(α.put o.dst a).put o2.dst y->α.put o2.dst x=α.put o2.dst y:=by
     intro x y na
     cases ey:o2.dst with
     |none=>rfl
     |some d =>
      rw [ey] at na
      have:x=y:=by
       have h3:=congrArg (fun z:AA=>z.tm d) na
       simpa [AA.put,aG] using h3
      rw [this]
    refine⟨o2,hj,s_,ca,hB,AD,by rw [hW,hM];exact cO.symm,?_⟩
    rcases hk with ⟨q,want,c,hg,hy,bH,h3,h4⟩|⟨hg,r,h3,h4⟩
    ·exact .inl ⟨q,want,c,hg,by rw [<-lC (l2 q want hg)];exact hy,bH,inj _ _ h3,h4⟩
    ·rw [lE l1] at h4
     exact .inr ⟨(AB l2).1 hg,r,inj _ _ h3,h4⟩
   refine⟨α.put oa.dst b,S,kj,⟨o,hi,hn,Le,hB,pI,hold,(AB m2).2 hg,a,?_,by rw [lE m1];exact bC⟩⟩
   exact put_comm fun t ht e=>bH t e ht
inductive ig (P:Program) (w0:World) (n:Nat) (ops:Array Oper) (B:Nat) (D:Nat->Dt × Option Nat):List Nat->AA->ae->AA->ae->Prop where
 |nil (α:AA) (S:ae):ig P w0 n ops B D [] α S α S
 |cons {i:Nat}{rest:List Nat}{α α1 aB:AA}{S S1 S':ae}(h:DF P w0 n ops B i (D i) α S α1 S1) (t:ig P w0 n ops B D rest α1 S1 aB S'):ig P w0 n ops B D (i::rest) α S aB S'
def Wm (ops:Array Oper) (D:Nat->Dt × Option Nat) (i j:Nat):Prop:=∃ oi oj,ops[i]?=some oi/\ops[j]?=some oj/\oi.apart ops oj=true/\Ay (D i) (D j)
theorem ig.front {j:Nat}:∀ {C1 C2:List Nat}{α aB:AA}{S S':ae},(∀ x ∈ C1,Wm ops D x j)->ig P w0 n ops B D (C1++j::C2) α S aB S'->ig P w0 n ops B D (j::(C1++C2)) α S aB S'
 |[],C2,α,aB,S,S',_,h=>h
 |x::C1,C2,α,aB,S,S',hx,h=>by
  cases h with
  |@cons _ _ _ α1 _ _ S1 _ h t =>
   have t':=ig.front (fun y hy=>hx y (by simp [hy])) t
   cases t' with
   |@cons _ _ _ sb _ _ S2 _ k t2 =>
    obtain⟨oi,oj,hi,hj,h1,h2⟩:=hx x (by simp)
    obtain⟨rA,vG,h3,h4⟩:=h.swap hi hj h1 h2 k
    exact .cons h3 (.cons h4 t2)
theorem ig.perm:∀ {L C:List Nat}{α aB:AA}{S S':ae},C.Pairwise (· < ·)->L.Pairwise (fun y x=>x < y->Wm ops D x y)->(∀ x,x ∈ L ↔ x ∈ C)->L.Nodup->ig P w0 n ops B D C α S aB S'->ig P w0 n ops B D L α S aB S'
 |[],C,α,aB,S,S',_,_,hm,_,h=>by
  have:C=[]:=by
   cases C with
   |nil=>rfl
   |cons x C=>have:=(hm x).2 (by simp);cases this
  subst this
  exact h
 |y::L,C,α,aB,S,S',hC,hL,hm,hn,h=>by
  obtain⟨C1,C2,rfl⟩:=List.append_of_mem ((hm y).1 (by simp))
  rw [List.pairwise_cons] at hL
  rw [List.nodup_cons] at hn
  rw [List.pairwise_append,List.pairwise_cons] at hC
  obtain⟨p1,⟨p2,p3⟩,p4⟩:=hC
  have fO:∀ x ∈ C1,x < y:=fun x hx=>p4 x hx y (by simp)
  have aQ:∀ x ∈ C2,y < x:=p2
  have eR:∀ x,x ∈ L ↔ x ∈ C1++C2:=by
   intro x
   have h0:=hm x
   simp only [List.mem_cons,List.mem_append] at h0 ⊢
   constructor
   ·intro hx
    rcases h0.1 (.inr hx) with h1|h1|h1
    ·exact .inl h1
    ·subst h1;exact absurd hx hn.1
    ·exact .inr h1
   ·intro hx
    have bH:x ≠ y:=by
     rintro rfl
     rcases hx with hx|hx
     ·exact absurd (fO x hx) (Nat.lt_irrefl _)
     ·exact absurd (aQ x hx) (Nat.lt_irrefl _)
    rcases h0.2 (hx.elim .inl fun h=>.inr (.inr h)) with h1|h1
    ·exact absurd h1 bH
    ·exact h1
  have hf:=ig.front (fun x hx=>hL.1 x ((eR x).2 (by simp [hx])) (fO x hx)) h
  cases hf with
  |cons h1 h2 =>
   refine .cons h1 (ig.perm (L:=L) ?_ hL.2 eR hn.2 h2)
   rw [List.pairwise_append]
   exact⟨p1,p3,fun a ha b hb=>p4 a ha b (by simp [hb])⟩
theorem ig.vH:∀ {L:List Nat}{α aB:AA}{S S':ae},ig P w0 n ops B D L α S aB S'->pB P w0 n ops L α S aB S'
 |[],_,_,_,_,.nil α S=>fun F m A g a w Q hF hS hA hQ=>hQ a w g hS hA (Ext.refl ..)
 |i::rest,α,aB,S,S',.cons (α1:=α1) (S1:=S1) h t=>by
  have ih:=ig.vH t
  obtain⟨d,hd⟩:∃ d,D i=d:=⟨_,rfl⟩
  rw [hd] at h
  obtain⟨d,x⟩:=d
  have run:∀ {o:Oper}{r:AV},ops[i]?=some o->(match o.dst with|some d=>Nat.blt d n|none=>true)=true->(o.guard=none\/∃ j want,o.guard=some (j,want)/\m6 ops α j=some (some want))->α1=α.put o.dst r->eB P w0 n o (α.only (dg o)) S r S1->pB P w0 n ops (i::rest) α S aB S':=by
   intro o r hi AE hg zc h4
   subst zc
   intro F m A g a w Q hF hS hA hQ
   have hw:Region.wanted o (yielded ops a.tmps)=true:=by
    rcases hg with hg|⟨j,want,hg,hy⟩
    ·simp [Region.wanted,hg]
    ·simp [Region.wanted,hg,nK hA hy]
   simp only [wpOpsIn,hi]
   rw [if_pos hw]
   refine⟨fun f _=>hF.1 f,h4 F m A g a w _ Q hF hS (hA.only _) fun v w' g' hr iu hE=>?_⟩
   exact ih F m A g' _ w' Q hF iu (kN (hA.later hE.toLater) AE hr) fun a' rB tn h1 h2 h3=>hQ a' rB tn h1 h2 (hE.trans h3)
  cases x with
  |some l =>
   obtain⟨o,hi,AE,_,_,_,_,hg,r,zc,bC⟩:=h
   exact run hi AE hg zc bC
  |none =>
   obtain⟨o,hi,AE,hp,hB,uL,fm,h⟩:=h
   rcases h with ⟨j,want,b,hg,hy,bH,rfl,vI⟩|⟨hg,r,zc,h3⟩
   ·have e:S1=S:=by rw [fm,vI];exact cO
    subst e
    intro F m A g a w Q hF hS hA hQ
    have Bv:¬ Region.wanted o (yielded ops a.tmps)=true:=by simp [Region.wanted,hg,nK hA hy,bH]
    simp only [wpOpsIn,hi]
    rw [if_neg Bv]
    exact⟨fun f _=>hF.1 f,ih F m A g _ w Q hF hS (kN hA AE .v) hQ⟩
   ·have h4:=h3 S hB uL (fun _=>rfl)
    rw [<-fm] at h4
    exact run hi AE hg zc h4
theorem ig.zd:∀ {L:List Nat}{α aB:AA}{S S':ae},ig P w0 n ops B D L α S aB S'->∀ i ∈ L,pA ops i=true->(D i).2=none/\(D i).1=.none_
 |_,_,_,_,_,.nil ..,i,hi,_=>by cases hi
 |_,_,_,_,_,.cons (i:=j) h t,i,hi,hp=>by
  rcases List.mem_cons.1 hi with rfl|hi
  ·obtain⟨d,hd⟩:∃ d,D i=d:=⟨_,rfl⟩
   rw [hd] at h ⊢
   obtain⟨d,x⟩:=d
   cases x with
   |none =>
    obtain⟨o,h1,_,h2,_⟩:=h
    simp only [pA,h1] at hp
    exact⟨rfl,h2 hp⟩
   |some l =>
    obtain⟨o,h1,_,h2,_⟩:=h
    rw [h2] at hp
    cases hp
  ·exact ig.zd t i hi hp
theorem cy.aaW {rd:Bool}{id:Nat}(hm:P.follows .mixedOrders=true) (od:oI ops=true) (hv:∀ p ∈ uf ops,Ay (D p.1) (D p.2)) (h:ig P w0 n ops B D (List.range ops.size) α S aB S'):cy P w0 rd n (.region id ops true) α S .normal aB S':=by
 intro F m A g a w hF hR hS hA
 simp only [oI,Bool.and_eq_true] at od
 obtain⟨he,hp⟩:=od
 refine wpIn_region_draw fun t=>?_
 simp only [Region.schedule,hm,Bool.true_or,if_true]
 have hd:ug ops (Array.replicate ops.size false):=⟨by simp,fun y x hy=>by
  simp only [Array.getD_eq_getD_getElem?,Array.getElem?_replicate] at hy
  split at hy<;>simp at hy⟩
 obtain⟨f1,f2,f3,f4⟩:=nL he ops.size t _ hd
 have lx:∀ x,x ∈ Region.linearise .any ops t ↔ x ∈ List.range ops.size:=by
  intro x
  refine⟨fun hx=>by simpa using (f1 x hx).1,fun hx=>?_⟩
  have hx:x < ops.size:=by simpa using hx
  by_cases c:x ∈ Region.linearise .any ops t
  ·exact c
  ·exfalso
   have hl:=f4 ⟨x,hx,by simp [Array.getD_eq_getD_getElem?,Array.getElem?_replicate,hx],c⟩
   have qC:(x::Region.linearise.go .any ops ops.size t (Array.replicate ops.size false) []).Nodup:=by
    rw [List.nodup_cons];exact⟨c,f2⟩
   have hlen:=vJ (x::Region.linearise.go .any ops ops.size t (Array.replicate ops.size false) []) qC ops.size (fun y hy=>by
    rcases List.mem_cons.1 hy with rfl|hy
    ·exact hx
    ·exact (f1 y hy).1)
   rw [List.length_cons,hl] at hlen
   omega
 have hL:(Region.linearise .any ops t).Pairwise (fun y x=>x < y->Wm ops D x y):=by
  refine List.Pairwise.imp_of_mem ?_ f3
  intro y x hy hx hb na
  have eR:=vK (ops:=ops) (f1 y hy).1 na hb
  have kJ:=List.all_eq_true.1 hp _ eR
  unfold Wn at kJ
  split at kJ
  ·rename_i oi oj hi hj
   refine⟨oi,oj,hi,hj,kJ,?_⟩
   have FZ:x ∈ List.range ops.size:=(lx x).1 hx
   have Rj:y ∈ List.range ops.size:=(lx y).1 hy
   have Wo:∀ {d e:Dt × Option Nat},d.2=none->d.1=.none_->Ay d e:=fun {d e} h1 h2=>by
    obtain⟨d,x⟩:=d
    obtain⟨e,y⟩:=e
    simp only at h1 h2
    subst h1 h2
    cases y with
    |none=>exact Bw
    |some l=>rfl
   have Wq:∀ {d e:Dt × Option Nat},e.2=none->e.1=.none_->Ay d e:=fun {d e} h1 h2=>by
    obtain⟨d,x⟩:=d
    obtain⟨e,y⟩:=e
    simp only at h1 h2
    subst h1 h2
    cases x with
    |none=>exact Bx
    |some l=>rfl
   cases F0:pA ops x with
   |true=>exact Wo (h.zd x FZ F0).1 (h.zd x FZ F0).2
   |false =>
    cases F3:pA ops y with
    |true=>exact Wq (h.zd y Rj F3).1 (h.zd y Rj F3).2
    |false=>exact hv (x,y) (List.mem_filter.2 ⟨eR,by simp [F0,F3]⟩)
  ·cases kJ
 have hC:(List.range ops.size).Pairwise (· < ·):=List.pairwise_lt_range
 obtain⟨hE,fm⟩:=hS.drew
 have fm:St w0 A g S { w with drawn:=w.drawn+1 }:=fm
 refine (ig.perm hC hL lx f2 h).vH F m A g a _ _ hF fm (hA.later hE.toLater) fun a' w' g' h1 h2 h3=>⟨rfl,g',h1,h2,hE.trans h3⟩
end
end Go.Proofs.YtgphljokbodciaaGreat
