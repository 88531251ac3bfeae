import Derived.Test.YtgjfgekaclobaaaGreatCa39
namespace Go.Proofs.YtgjfgekaclobaaaGreat
set_option linter.unusedVariables false
set_option linter.unusedSimpArgs false
open Go.RowKit
section
variable {P:Program}{w0:World}{n:Nat}{o:Oper}{α:AA}{S S':ad}{r:AV}
theorem ae.aki {m k sz off len:Nat}{x:QO}{lo hi:Option QO}{l h:Int}{rows:List (List AV)}{fz:Nat}{ex:Bool}(hx:x.ev α.tm=.ob k sz off len none) (hk:S.get k=some (.arr sz rows fz ex)) (hm:m=sz) (hl:l6 α.tm lo 0=some l) (hh:l6 α.tm hi len=some h) (h0:0<=l) (h1:l < h) (h2:off+h<=rows.length) :
  ae P w0 false (.slice (.sl m) x lo hi none) α S (.ob k sz (off+l.toNat) (h.toNat - l.toNat) none) S:=ae.run fun n o hr=>by
 obtain⟨t,u,l1,i1,m1,ho,rfl,rfl,rfl,cT,⟨hs,_⟩|⟨e,m',hs,hu,hz⟩⟩:=I2 hr
 ·cases hs
 ·injection hs with hs
  subst hs hm
  have cT:m1=none:=by cases m1 with|none=>rfl|some _=>cases cT
  subst cT
  rw [aJ] at hx
  refine aS.quiet fun A g q w hS hA=>?_
  have hx:=hA.ev u
  rw [show α.ev u=_ from ‹α.ev u=_›] at hx
  obtain⟨c,e1,aO,hc,hp,jw,hle⟩:=h_ hx
  obtain⟨_,_,cs,ty,p1,p2,p3,_⟩:=hS.bR k _ hk aO
  have Zq:=jw rfl
  have hb:=kU (P:=P) (isSl:=true) (len:=len) (cap:=c) (w:=w) hA (yE hl) (yE hh) h0 (by omega) (by omega)
  have a_:¬ c=l.toNat:=by omega
  have iR:(Instr.slice t (q.eval u) (l1.map q.eval) (i1.map q.eval) (Option.map q.eval none)).run P w=.ok (.slice (some ⟨g.ob k,(off+l.toNat)*m,none⟩) (h.toNat - l.toNat) (c - l.toNat)) w:=by
   simp [Instr.slice,e1,run_underlying hu,hb,cA hz,a_,fh,Nat.add_mul]
  have aeh:(execOp q.eval o).run P w=.ok (.value (.slice (some ⟨g.ob k,(off+l.toNat)*m,none⟩) (h.toNat - l.toNat) (c - l.toNat))) w:=by
   simp only [execOp,ho,Sem.run_bind,vE hu (fun k e h=>by cases h),iR,Result.andThen_ok]
   rfl
  exact⟨_,aeh,.ob aO (fun m hm=>by cases hm) (by omega) (fun _=>by omega) (by omega)⟩
theorem KG {z:List AV}{a:QO}{o:Op}(h:res P.toTables o=some (.uE z a)):∃ c t u e zv,o=.call c/\c.callee=.builtin .clear/\c.argTypes=#[t]/\c.args=#[u]/\a=qo u/\P.underlying t=some (.slice e)/\cU P e=some zv/\z=zv.cells.toList.map bJ:=by
 cases o<;>simp only [res,bF,gn] at h<;>(repeat' split at h)<;>(try cases h)
 exact⟨_,_,_,_,_,rfl,by assumption,toList_one (by assumption),toList_one (by assumption),rfl,by assumption,by assumption,rfl⟩
theorem ae.abi {z:List AV}{x:QO}{k sz off len fz:Nat}{cx:Option Nat}{rows:List (List AV)}{ex:Bool}(hx:x.ev α.tm=.ob k sz off len cx) (hk:S.get k=some (.arr sz rows fz ex)) (hz:z.length=sz) (kI:gE bQ z=true) (hp:off+len<=rows.length) (hf:fz<=off) (h0:0 < len) :
  ae P w0 false (.uE z x) α S (.aE []) (S.set k (some (.arr sz (rows.take off++List.replicate len z++rows.drop (off+len)) fz ex))):=ae.run fun n o hr=>by
 obtain⟨c,t,u,e,zv,ho,hc,fC,aY,rfl,hu,Ps,rfl⟩:=KG hr
 rw [aJ] at hx
 intro A g q w hS hA
 have h1:=hA.ev u
 rw [hx] at h1
 obtain⟨cc,e1,aO,_,_,_,hle⟩:=h_ h1
 obtain⟨k2,k3,cs,ty,p1,p2,p3,p4,p5,p6,p7⟩:=hS.bR k _ hk aO
 have lT:zv.cells.size=sz:=by simpa using hz
 obtain⟨news,qU⟩:∃ news,news=(Builtin.zeroCells zv.cells len).toList:=⟨_,rfl⟩
 have eF:news.length=(List.replicate len (zv.cells.toList.map bJ)).length*sz:=by rw [qU,Array.length_toList,size_zeroCells,List.length_replicate,lT]
 have jj:∀ i j,i < len->j < sz->∀ v,zv.cells[j]?=some v->news[i*sz+j]?=some v:=by
  intro i j hi hj v hv
  have aA:i*sz+j < len*sz:=kr hi hj
  have e1:(i*sz+j) % zv.cells.size=j:=by
   rw [lT,Nat.mul_comm,Nat.mul_add_mod]
   exact Nat.mod_eq_of_lt hj
  rw [qU,Array.getElem?_toList]
  unfold Builtin.zeroCells
  rw [Array.getElem?_map,Array.getElem?_range,if_pos (by rw [lT];exact aA)]
  simp only [Option.map_some,e1]
  rw [getElem!_pos zv.cells j (by omega),<-hv,Array.getElem?_eq_getElem (by omega)]
 obtain⟨hE,cQ⟩:=hS.CO (p:=off) (more:=List.replicate len (zv.cells.toList.map bJ)) (news:=news) hk aO p1 (fun r hr=>by rw [(List.mem_replicate.1 hr).2];exact hz) eF (fun i row j a hi ha=>by
  obtain⟨fA,rfl⟩:=List.getElem?_eq_some_iff.1 hi
  simp only [List.length_replicate] at fA
  simp only [List.getElem_replicate,List.getElem?_map,Option.map_eq_some_iff] at ha
  obtain⟨y,hy,rfl⟩:=ha
  have hj:j < sz:=by
   have:=(List.getElem?_eq_some_iff.1 hy).1
   simp at this
   omega
  exact⟨y,jj i j fA hj y (by rw [<-Array.getElem?_toList];exact hy),kF y⟩) (by rw [List.length_replicate];exact hp) hf
 rw [List.length_replicate] at cQ
 have akj:∀ v ∈ news,v.oneCell'=true:=by
  intro v hv
  rw [qU] at hv
  have hv:=Array.mem_toList_iff.1 hv
  unfold Builtin.zeroCells at hv
  obtain⟨i,hi,rfl⟩:=Array.mem_map.1 hv
  have fA:=Array.mem_range.1 hi
  have bh:0 < zv.cells.size:=by
   rcases Nat.eq_zero_or_pos zv.cells.size with e|e
   ·rw [e,Nat.mul_zero] at fA;omega
   ·exact e
  have hj:i % zv.cells.size < zv.cells.size:=Nat.mod_lt _ bh
  rw [getElem!_pos zv.cells _ hj]
  have hm:bJ zv.cells[i % zv.cells.size] ∈ zv.cells.toList.map bJ:=List.mem_map.2 ⟨_,Array.mem_toList_iff.2 (Array.getElem_mem hj),rfl⟩
  exact qQ (g:=g) (w:=w) (dV kI _ hm) (kF _)
 have ep:off*sz+0+news.length<=cs.size:=by
  rw [eF,List.length_replicate,p2,Nat.add_zero,<-Nat.add_mul]
  exact Nat.mul_le_mul_right sz (by omega)
 have lr:=run_storeCells_at (P:=P) (g.ob k) (off*sz) ty news 0 cs w p1 ep akj
 rw [Nat.add_zero] at lr
 refine⟨.tuple #[],_,g,.inl ?_,.aE rfl (fun i a x h=>by simp at h),cQ,hE⟩
 have bY:(execOp q.eval o).run P w=((Builtin.clear_ #[t] o.type #[q.eval u]).run P w).andThen fun v w'=>.ok (.value v) w':=by
  simp [execOp,ho,resolve,hc,fC,aY,invoke,builtin]
 rw [bY,e1]
 obtain⟨eU,rfl⟩:∃ l,len=l+1:=⟨len - 1,by omega⟩
 rw [qU] at lr
 simp [Builtin.clear_,run_underlying hu,kG Ps,lr,qU]
end
def G3 (q:dp) (f:Nat->AV) (s:XS):Option (AV × XS):=match q with
 |.im z by_ l c=>match l.ev f,c.ev f with
  |.v (.int _ i),.v (.int _ j)=>match decide (0<=i/\i < j/\j*by_<=35184372088832/\j<=9223372036854775807) && !dY s.yk s.nx with
   |true=>some (.ob s.nx z.length 0 i.toNat none,ly s (.arr z.length (List.replicate j.toNat z) 0 true))
   |false=>none
  |_,_=>none
 |.slice (.sl m) x lo hi none=>match x.ev f with
  |.ob k sz off len none=>match (eE s).get k,l6 f lo 0,l6 f hi len with
   |some (.arr sz' rows _ _),some l,some h=>match Nat.beq sz' sz && Nat.beq m sz && decide (0<=l/\l < h/\(len:Int) < h/\off+h<=rows.length) with
    |true=>some (.ob k sz (off+l.toNat) (h.toNat - l.toNat) none,s)
    |false=>none
   |_,_,_=>none
  |_=>none
 |.uE z x=>match x.ev f with
  |.ob k sz off len _=>match (eE s).get k with
   |some (.arr sz' rows fz ex)=>match Nat.beq sz' sz && Nat.beq z.length sz && gE bQ z && Nat.ble (off+len) rows.length && Nat.ble fz off && Nat.blt 0 len with
    |true=>some (.aE [],kH s k (some (.arr sz (rows.take off++List.replicate len z++rows.drop (off+len)) fz ex)))
    |false=>none
   |_=>none
  |_=>none
 |.append sz by_ a b=>match a.ev f with
  |.ob k sz' 0 len none=>match (eE s).get k,dD (eE s) (b.ev f) with
   |some (.arr fN rows fz ex),some (x::more)=>match Nat.beq fN sz && Nat.beq sz' sz && Nat.ble (len+(x::more).length) rows.length && Nat.ble fz len && kz sz (x::more) && r5 bQ (x::more) with
    |true=>some (.ob k sz 0 (len+(x::more).length) none,kH s k (some (.arr sz (rows.take len++(x::more)++rows.drop (len+(x::more).length)) fz ex)))
    |false=>none
   |_,_=>none
  |_=>none
 |.copy sz a b=>match a.ev f with
  |.ob k sz' off len _=>match dD (eE s) (b.ev f) with
   |some []=>some (.v (.int .i64 0),s)
   |some (x::more)=>match (eE s).get k with
    |some (.arr fN rows fz ex)=>match Nat.beq fN sz && Nat.beq sz' sz && Nat.ble (x::more).length len && Nat.ble (off+len) rows.length && Nat.ble fz off && kz sz (x::more) && r5 bQ (x::more) with
     |true=>some (.v (.int .i64 (x::more).length),kH s k (some (.arr sz (rows.take off++(x::more)++rows.drop (off+(x::more).length)) fz ex)))
     |false=>none
    |_=>none
   |none=>none
  |_=>none
 |_=>none
section
variable {P:Program}{w0:World}{s s':XS}{r:AV}
theorem Pt {q:dp}{f:Nat->AV}{df:List DE}(h:G3 q f s=some (r,s')):(∀ J,ae P w0 false q ⟨f,df⟩ (den J s) r (den J s'))/\dZ s s'/\s'.lg=s.lg:=by
 cases q with
 |im z by_ l c =>
  simp only [G3] at h
  split at h
  ·rename_i k1 i k2 j hl hc
   split at h
   ·rename_i hd
    simp only [Bool.and_eq_true,Bool.not_eq_true'] at hd
    have eu:=of_decide_eq_true hd.1
    simp only [oI_,pI_] at h
    obtain⟨rfl,rfl⟩:=h
    refine⟨fun J=>?_,.nw,rfl⟩
    rw [jl hd.2]
    exact ae.aal hl hc eu.1 (by omega) eu.2.2.1 eu.2.2.2
   ·cases h
  ·cases h
 |slice k x lo hi mx =>
  cases k with
  |str=>cases h
  |sl m =>
   cases mx with
   |some mx=>cases h
   |none =>
    simp only [G3] at h
    split at h
    ·rename_i k sz off len hx
     split at h
     ·rename_i sz' rows fz ex l hh hk hl uF
      split at h
      ·rename_i hc
       simp only [Bool.and_eq_true] at hc
       obtain⟨⟨h1,h2⟩,h3⟩:=hc
       have h1:=Nat.eq_of_beq_eq_true h1
       have h2:=Nat.eq_of_beq_eq_true h2
       have h3:=of_decide_eq_true h3
       subst h1
       simp only [oI_,pI_] at h
       obtain⟨rfl,rfl⟩:=h
       exact⟨fun J=>ae.aki hx (dk (J:=J) hk).1 h2 hl uF h3.1 h3.2.1 (by omega),.refl _,rfl⟩
      ·cases h
     ·cases h
    ·cases h
 |uE z x =>
  simp only [G3] at h
  split at h
  ·rename_i k sz off len cx hx
   split at h
   ·rename_i sz' rows fz ex hk
    split at h
    ·rename_i hc
     simp only [Bool.and_eq_true] at hc
     obtain⟨⟨⟨⟨⟨h1,h2⟩,h3⟩,h4⟩,h5⟩,h6⟩:=hc
     have h1:=Nat.eq_of_beq_eq_true h1
     subst h1
     simp only [oI_,pI_] at h
     obtain⟨rfl,rfl⟩:=h
     refine⟨fun J=>?_,.wr,rfl⟩
     obtain⟨dN,eh⟩:=dk (J:=J) hk
     rw [jk eh]
     exact ae.abi hx dN (Nat.eq_of_beq_eq_true h2) h3 (Nat.le_of_ble_eq_true h4) (Nat.le_of_ble_eq_true h5) (dC h6)
    ·cases h
   ·cases h
  ·cases h
 |append sz by_ a b =>
  simp only [G3] at h
  split at h
  ·rename_i k sz' len ha
   split at h
   ·rename_i fN rows fz ex x more hk hm
    split at h
    ·rename_i hc
     simp only [Bool.and_eq_true] at hc
     obtain⟨⟨⟨⟨⟨h1,h2⟩,h3⟩,h4⟩,h5⟩,h6⟩:=hc
     have h1:=Nat.eq_of_beq_eq_true h1
     have h2:=Nat.eq_of_beq_eq_true h2
     subst h1 h2
     simp only [oI_,pI_] at h
     obtain⟨rfl,rfl⟩:=h
     refine⟨fun J=>?_,.wr,rfl⟩
     obtain⟨dN,eh⟩:=dk (J:=J) hk
     rw [jk eh]
     exact ae.aam ha dN (iU hm) (Nat.le_of_ble_eq_true h4) (Nat.le_of_ble_eq_true h3) (fun row hr=>⟨fO h5 row hr,List.all_eq_true.2 (kQ h6 row hr)⟩)
    ·cases h
   ·cases h
  ·cases h
 |copy sz a b =>
  simp only [G3] at h
  split at h
  ·rename_i k sz' off len cx ha
   split at h
   ·rename_i hm
    simp only [oI_,pI_] at h
    obtain⟨rfl,rfl⟩:=h
    exact⟨fun J=>ae.ajV ha (iU hm),.refl _,rfl⟩
   ·rename_i x more hm
    split at h
    ·rename_i fN rows fz ex hk
     split at h
     ·rename_i hc
      simp only [Bool.and_eq_true] at hc
      obtain⟨⟨⟨⟨⟨⟨h1,h2⟩,h3⟩,h4⟩,h5⟩,h6⟩,h7⟩:=hc
      have h1:=Nat.eq_of_beq_eq_true h1
      have h2:=Nat.eq_of_beq_eq_true h2
      subst h1 h2
      simp only [oI_,pI_] at h
      obtain⟨rfl,rfl⟩:=h
      refine⟨fun J=>?_,.wr,rfl⟩
      obtain⟨dN,eh⟩:=dk (J:=J) hk
      rw [jk eh]
      exact ae.cpy ha dN (iU hm) (Nat.le_of_ble_eq_true h3) (Nat.le_of_ble_eq_true h4) (Nat.le_of_ble_eq_true h5) (fun row hr=>⟨fO h6 row hr,List.all_eq_true.2 (kQ h7 row hr)⟩)
     ·cases h
    ·cases h
   ·cases h
  ·cases h
 |_=>cases h
end
section
variable {P:Program}{w0:World}{n:Nat}{o:Oper}{α:AA}{S S':ad}{r:AV}
theorem B4 (w:World) (t t2 ty e:TypeId) (i:TypeInfo) (z:Value) {kk k:IntKind}(ht:P.underlying t=some (.slice e)) (eX:P.underlying t2=some (.int kk)) (hi:P.info? e=some i) (hz:i.zero=some z) (B:Option Addr) (n:Nat) (hs:0 < i.size)
  (h0:0 < n) (h63:(n:Int)<=9223372036854775807) (h48:n*i.bytes<=281474976710656) :
  (Builtin.append_ #[t,t2] ty #[.slice B 0 0,.int k n]).run P w =
   .ok (.slice (some ⟨w.heap.size,0,none⟩) n (grownCap w n 0 e)) (w.drew.alloc (.cells (Builtin.zeroCells z.cells n++Builtin.zeroCells z.cells (grownCap w n 0 e - n)) e)):=by
 have hn:n ≠ 0:=by omega
 have hns:i.size ≠ 0:=by omega
 have akk:¬ (9223372036854775807 < (n:Int)):=by omega
 have akl:¬ (281474976710656 < Builtin.nextslicecap n 0*i.bytes):=by rw [nextslicecap_zero h0];omega
 have hw:IntKind.i64.wrap (n:Int)=n:=by rw [IntKind.wrap_i64];omega
 have akm:¬ (n:Int) < 0:=by omega
 have akn:¬ (281474976710656 < (n:Int)*i.bytes):=by
  intro h
  have:(281474976710656:Int) < ((n*i.bytes:Nat):Int):=by rw [Int.natCast_mul];exact h
  omega
 have A_:∀ w:World,(Builtin.firstCells i.size 0 (.slice B 0 0)).run P w=.ok #[] w:=fun w=>by
  cases B with
  |none=>simp [Builtin.firstCells]
  |some b=>simpa using run_firstCells_some (P:=P) (w:=w) i.size 0 b 0 0 [] (by simp) (fun j v h=>by simp at h)
 simp [Builtin.append_,run_underlying ht,run_underlying eX,sizeOf,typeInfo,zeroValue,hi,hz,asInt,asIntOf,hw,akm,akn,hn,hns,akk,akl,Question.forced,A_,newRow,grownCap]
 intro h
 rcases Nat.mul_eq_zero.1 h with h|h
 ·omega
 ·omega
theorem RY {z:List AV}{by_:Nat}{a b:QO}{o:Op}(h:res P.toTables o=some (.C8 z by_ a b)):∃ c t t2 u v e kk zv sz,o=.call c/\c.callee=.builtin .append/\c.argTypes=#[t,t2]/\c.args=#[u,v]/\a=qo u/\b=qo v/\P.underlying t=some (.slice e)/\P.underlying t2=some (.int kk)/\cU P e=some zv /\
  cP P e=some sz/\gV P e=some by_/\zv.cells.size=sz/\0 < by_/\z=zv.cells.toList.map bJ:=by
 have two:∀ {β:Type}{x y:β}{l:Array β},l.toList=[x,y]->l=#[x,y]:=fun {β x y l} h=>by rw [<-Array.toArray_toList (xs:=l),h]
 cases o<;>simp only [res,bF,dJ,k_,gn,jE] at h<;>(repeat' split at h)<;>(try cases h)
 rename_i hb
 simp only [Bool.and_eq_true] at hb
 exact⟨_,_,_,_,_,_,_,_,_,rfl,by assumption,two (by assumption),two (by assumption),rfl,rfl,mh (by assumption),by assumption,by assumption,by assumption,by assumption,Nat.eq_of_beq_eq_true hb.1,dC hb.2,rfl⟩
theorem ae.aei {z:List AV}{by_:Nat}{a b:QO}{k:IntKind}{m:Int}(h1:a.ev α.tm=.sl true []) (h2:b.ev α.tm=.v (.int k m)) (h0:0 < m) (h4:m*by_<=35184372088832) (hz:0 < z.length) :
  ae P w0 false (.C8 z by_ a b) α S (.ob S.nx z.length 0 m.toNat none) (S.new (.arr z.length (List.replicate m.toNat z) 0 false)):=ae.run fun n o hr=>by
 obtain⟨c,t,t2,u,v,e,kk,zv,sz,ho,hc,fC,aY,rfl,rfl,ht,eX,Ps,hs,jn,lT,ku,rfl⟩:=RY hr
 have hzl:(zv.cells.toList.map bJ).length=sz:=by simp [lT]
 rw [hzl] at hz ⊢
 rw [aJ] at h1 h2
 intro A g q w hS hA
 have g1:=hA.ev u
 have g2:=hA.ev v
 rw [h1] at g1
 rw [h2] at g2
 obtain⟨B,cc,e1,_,jw⟩:=oM g1
 have uv:cc=0:=by simpa using jw rfl
 subst uv
 have e2:=bO g2
 obtain⟨i,hi,bh⟩:=ji hs
 have qB:i.zero=some zv:=by unfold cU at Ps;rw [hi] at Ps;simpa using Ps
 have zx:i.bytes=by_:=by unfold gV at jn;rw [hi] at jn;simpa using jn
 obtain⟨m',rfl⟩:∃ m':Nat,m=m':=⟨m.toNat,by omega⟩
 have G1:0 < m':=by omega
 have h4':m'*by_<=35184372088832:=by
  have:((m'*by_:Nat):Int)<=35184372088832:=by rw [Int.natCast_mul];exact h4
  omega
 have hmul:m'<=35184372088832:=Nat.le_trans (Nat.le_mul_of_pos_right _ ku) h4'
 have bY:=B4 (P:=P) w t t2 o.type e i zv (k:=k) ht eX hi qB B m' (by omega) G1 (by omega) (by rw [zx];omega)
 have x8:=grownCap_ge w m' 0 e
 obtain⟨Vo,O9⟩:=hS.drew
 have r6:∀ q,¬ g.fz w.heap.size q:=fun q hf=>absurd (hS.cC _ _ hf) (Nat.lt_irrefl _)
 obtain⟨hE,cQ⟩:=O9.new (.cells (Builtin.zeroCells zv.cells m'++Builtin.zeroCells zv.cells (grownCap w m' 0 e - m')) e) (.arr sz (List.replicate m' (zv.cells.toList.map bJ)) 0 false) (grownCap w m' 0 e) (fun J=>by simp) (fun hL=>by
  refine⟨_,e,c_,?_,by simpa using x8,fun h=>by simp at h,fun p row hr=>?_,Nat.zero_le _,fun q=>⟨fun h=>absurd h (r6 q),fun h=>by simp at h⟩⟩
  ·simp only [Array.size_append,size_zeroCells,lT]
   rw [<-Nat.add_mul]
   congr 1
   omega
  ·obtain⟨fA,rfl⟩:=List.getElem?_eq_some_iff.1 hr
   simp only [List.length_replicate] at fA
   simp only [List.getElem_replicate]
   refine⟨hzl,fun j b' hj=>?_⟩
   simp only [List.getElem?_map,Option.map_eq_some_iff] at hj
   obtain⟨y,hy,rfl⟩:=hj
   have xy:j < sz:=by
    have:=(List.getElem?_eq_some_iff.1 hy).1
    simp at this
    omega
   refine⟨y,?_,kF y⟩
   have aA:p*sz+j < m'*sz:=kr fA xy
   have eN:j < zv.cells.size:=by omega
   have e3:(p*sz+j) % zv.cells.size=j:=by
    rw [lT,Nat.mul_comm,Nat.mul_add_mod]
    exact Nat.mod_eq_of_lt xy
   rw [Array.getElem?_append_left (by rw [size_zeroCells,lT];exact aA)]
   unfold Builtin.zeroCells
   rw [Array.getElem?_map,Array.getElem?_range,if_pos (by rw [lT];exact aA)]
   simp only [Option.map_some,e3]
   rw [getElem!_pos zv.cells j eN,<-hy,Array.getElem?_toList,Array.getElem?_eq_getElem eN])
 have hx:(execOp q.eval o).run P w=.ok (.value (.slice (some ⟨w.heap.size,0,none⟩) m' (grownCap w m' 0 e))) (w.drew.alloc (.cells (Builtin.zeroCells zv.cells m'++Builtin.zeroCells zv.cells (grownCap w m' 0 e - m')) e)):=by
  have hx:(execOp q.eval o).run P w=((Builtin.append_ #[t,t2] o.type #[q.eval u,q.eval v]).run P w).andThen fun v w'=>.ok (.value v) w':=by
   simp [execOp,ho,resolve,hc,fC,aY,invoke,builtin]
  rw [hx,e1,e2]
  simp only [List.length_nil]
  rw [bY]
  rfl
 refine⟨_,_,_,.inl hx,?_,cQ,Vo.trans hE⟩
 have:=aH.ob (g:=g.new S.nx w.drew.heap.size (grownCap w m' 0 e)) (w:=w.drew.alloc (.cells (Builtin.zeroCells zv.cells m'++Builtin.zeroCells zv.cells (grownCap w m' 0 e - m')) e))
  (k:=S.nx) (sz:=sz) (off:=0) (len:=m') (c:=grownCap w m' 0 e) (cx:=none) (.inr rfl) (fun m h=>by cases h) (by rw [Nat.zero_add];exact Nat.le_of_eq (aq _ _ _).symm) (fun _=>by rw [Nat.zero_add];exact (aq _ _ _).symm) x8
 rw [show (g.new S.nx w.drew.heap.size (grownCap w m' 0 e)).ob S.nx=w.heap.size from aq _ _ _,Nat.zero_mul] at this
 exact this
theorem Yw {a:QO}{o:Op}(h:res P.toTables o=some (.cap a)):∃ c t u e,o=.call c/\c.callee=.builtin .cap/\c.argTypes=#[t]/\c.args=#[u]/\a=qo u/\P.underlying t=some (.slice e):=by
 cases o<;>simp only [res,bF] at h<;>(repeat' split at h)<;>(try cases h)
 exact⟨_,_,_,_,rfl,by assumption,toList_one (by assumption),toList_one (by assumption),rfl,by assumption⟩
def RZ:AV->Option Nat
 |.sl true rows=>some rows.length
 |.ob _ _ _ _ (some c)=>some c
 |_=>none
theorem ae.cap {x:QO}{m:Nat}(hx:RZ (x.ev α.tm)=some m):ae P w0 false (.cap x) α S (.v (.int .i64 m)) S:=ae.run fun n o hr=>by
 obtain⟨c,t,u,e,ho,hc,fC,aY,rfl,hu⟩:=Yw hr
 rw [aJ] at hx
 refine aS.quiet fun A g q w hS hA=>?_
 have h1:=hA.ev u
 have key:∃ B l,q.eval u=.slice B l m:=by
  unfold RZ at hx
  split at hx
  ·rename_i rows e1
   rw [e1] at h1
   obtain rfl:=oJ_ hx
   obtain⟨B,cc,e2,_,jw⟩:=oM h1
   rw [jw rfl] at e2
   exact⟨_,_,e2⟩
  ·rename_i k sz off len c' e1
   rw [e1] at h1
   obtain rfl:=oJ_ hx
   obtain⟨cc,e2,_,jw,_⟩:=h_ h1
   rw [jw _ rfl] at e2
   exact⟨_,_,e2⟩
  ·cases hx
 obtain⟨B,l,e2⟩:=key
 refine⟨_,?_,.v⟩
 simp [execOp,ho,resolve,hc,fC,aY,invoke,builtin,e2,Builtin.cap_,run_underlying hu,goInt]
theorem KH {a:QO}{o:Op}(h:res P.toTables o=some (.pZ a)):∃ c t u kt et,o=.call c/\c.callee=.builtin .clear/\c.argTypes=#[t]/\c.args=#[u]/\a=qo u/\P.underlying t=some (.map kt et):=by
 cases o<;>simp only [res,bF] at h<;>(repeat' split at h)<;>(try cases h)
 exact⟨_,_,_,_,_,rfl,by assumption,toList_one (by assumption),toList_one (by assumption),rfl,by assumption⟩
theorem ae.pZ {x:QO}{k:Nat}{es:List (Value × AV)}(hx:x.ev α.tm=.mp k) (hk:S.get k=some (.mp es)):ae P w0 false (.pZ x) α S (.aE []) (S.set k (some (.mp []))):=ae.run fun n o hr=>by
 obtain⟨c,t,u,kt,et,ho,hc,fC,aY,rfl,hu⟩:=KH hr
 rw [aJ] at hx
 intro A g q w hS hA
 have h1:=hA.ev u
 rw [hx] at h1
 obtain⟨e1,aO⟩:=ng h1
 obtain⟨_,_,entries,clock,p1,p2,p3⟩:=hS.bR k _ hk aO
 obtain⟨w',q1,q2,q3⟩:=hS.ue (P:=P) hk aO p1 (entries':=#[]) (clock':=clock) (es':=[]) rfl (fun i key a h=>by simp at h)
 refine⟨.tuple #[],w',g,.inl ?_,.aE rfl (fun i a x h=>by simp at h),q2,q3⟩
 simp [execOp,ho,resolve,hc,fC,aY,invoke,builtin,e1,Builtin.clear_,run_underlying hu,en p1,q1]
end
def G4 (q:dp) (f:Nat->AV) (s:XS):Option (AV × XS):=match q with
 |.C8 z by_ a b=>match a.ev f,b.ev f with
  |.sl true [],.v (.int _ m)=>match decide (0 < m/\m*by_<=35184372088832) && Nat.blt 0 z.length && !dY s.yk s.nx with
   |true=>some (.ob s.nx z.length 0 m.toNat none,ly s (.arr z.length (List.replicate m.toNat z) 0 false))
   |false=>none
  |_,_=>none
 |.cap x=>match RZ (x.ev f) with
  |some m=>some (.v (.int .i64 m),s)
  |none=>none
 |.pZ x=>match x.ev f with
  |.mp k=>match (eE s).get k with
   |some (.mp es)=>some (.aE [],kH s k (some (.mp [])))
   |_=>none
  |_=>none
 |q=>G3 q f s
section
variable {P:Program}{w0:World}{s s':XS}{r:AV}
theorem KI {q:dp}{f:Nat->AV}{df:List DE}(h:G4 q f s=some (r,s')):(∀ J,ae P w0 false q ⟨f,df⟩ (den J s) r (den J s'))/\dZ s s'/\s'.lg=s.lg:=by
 cases q with
 |C8 z by_ a b =>
  simp only [G4] at h
  split at h
  ·rename_i k m ha hb
   split at h
   ·rename_i hc
    simp only [Bool.and_eq_true,Bool.not_eq_true'] at hc
    obtain⟨⟨h1,h2⟩,h3⟩:=hc
    have h1:=of_decide_eq_true h1
    simp only [oI_,pI_] at h
    obtain⟨rfl,rfl⟩:=h
    refine⟨fun J=>?_,.nw,rfl⟩
    rw [jl h3]
    exact ae.aei ha hb h1.1 h1.2 (dC h2)
   ·cases h
  ·cases h
 |cap x =>
  simp only [G4] at h
  split at h
  ·rename_i m hm
   simp only [oI_,pI_] at h
   obtain⟨rfl,rfl⟩:=h
   exact⟨fun J=>ae.cap hm,.refl _,rfl⟩
  ·cases h
 |pZ x =>
  simp only [G4] at h
  split at h
  ·rename_i k hx
   split at h
   ·rename_i es hk
    simp only [oI_,pI_] at h
    obtain⟨rfl,rfl⟩:=h
    refine⟨fun J=>?_,.wr,rfl⟩
    obtain⟨dN,eh⟩:=dk (J:=J) hk
    rw [jk eh]
    exact ae.pZ hx dN
   ·cases h
  ·cases h
 |_=>exact Pt h
end
def KJ:List UInt8->List UInt8->Bool
 |[],[]=>true
 |a::l,b::m=>match Nat.beq a.toNat b.toNat with|true=>KJ l m|false=>false
 |_,_=>false
theorem Jk:∀ {a b:List UInt8},KJ a b=true->a=b
 |[],[],_=>rfl
 |[],_::_,h=>by cases h
 |_::_,[],h=>by cases h
 |a::l,b::m,h=>by
  unfold KJ at h
  split at h
  ·rename_i e
   rw [UInt8.toNat_inj.1 (Nat.eq_of_beq_eq_true e),Jk h]
  ·cases h
def KK:Bool->Bool->Bool
 |true,true=>true
 |false,false=>true
 |_,_=>false
theorem C9:∀ {a b:Bool},KK a b=true->a=b
 |true,true,_=>rfl
 |false,false,_=>rfl
def R0:Value->Value->Bool
 |.int .i64 a,.int .i64 b=>decide (a=b)
 |.bool a,.bool b=>KK a b
 |.string a,.string b=>KJ a.data.toList b.data.toList
 |_,_=>false
theorem Yx {a b:Value}(h:R0 a b=true):a=b:=by
 unfold R0 at h
 split at h
 ·rw [of_decide_eq_true h]
 ·rw [C9 h]
 ·rename_i a b
  have h:=Jk h
  congr 1
  cases a;cases b
  simp only [ByteArray.mk.injEq]
  exact Array.toList_inj.1 h
 ·cases h
def x9 {α:Type}(f:α->α->Bool):List α->List α->Bool
 |[],[]=>true
 |a::l,b::m=>match f a b with|true=>x9 f l m|false=>false
 |_,_=>false
theorem ru {α:Type}{f:α->α->Bool}(hf:∀ a b,f a b=true->a=b):∀ {l m:List α},x9 f l m=true->l=m
 |[],[],_=>rfl
 |[],_::_,h=>by cases h
 |_::_,[],h=>by cases h
 |a::l,b::m,h=>by
  unfold x9 at h
  split at h
  ·rename_i e;rw [hf _ _ e,ru hf h]
  ·cases h
def abj:Option Nat->Option Nat->Bool
 |none,none=>true
 |some a,some b=>Nat.beq a b
 |_,_=>false
theorem Yy:∀ {a b:Option Nat},abj a b=true->a=b
 |none,none,_=>rfl
 |some a,some b,h=>by rw [Nat.eq_of_beq_eq_true h]
 |none,some _,h=>by cases h
 |some _,none,h=>by cases h
def AI:Nat->AV->AV->Bool
 |0,_,_=>false
 |m+1,a,b=>match a,b with
  |.v x,.v y=>R0 x y
  |.sl e r,.sl e' r'=>KK e e' && x9 (x9 (AI m)) r r'
  |.agg l,.agg l'=>x9 (AI m) l l'
  |.ob k z o n c,.ob k' z' o' n' c'=>Nat.beq k k' && Nat.beq z z' && Nat.beq o o' && Nat.beq n n' && abj c c'
  |.pt k z o n,.pt k' z' o' n'=>Nat.beq k k' && Nat.beq z z' && Nat.beq o o' && Nat.beq n n'
  |_,_=>false
theorem uG:∀ {m:Nat}(a b:AV),AI m a b=true->a=b
 |0,_,_,h=>by cases h
 |m+1,a,b,h=>by
  unfold AI at h
  split at h
  ·rw [Yx h]
  ·simp only [Bool.and_eq_true] at h
   rw [C9 h.1,ru (fun _ _=>ru uG) h.2]
  ·rw [ru uG h]
  ·simp only [Bool.and_eq_true] at h
   obtain⟨⟨⟨⟨h1,h2⟩,h3⟩,h4⟩,h5⟩:=h
   rw [Nat.eq_of_beq_eq_true h1,Nat.eq_of_beq_eq_true h2,Nat.eq_of_beq_eq_true h3,Nat.eq_of_beq_eq_true h4,Yy h5]
  ·simp only [Bool.and_eq_true] at h
   obtain⟨⟨⟨h1,h2⟩,h3⟩,h4⟩:=h
   rw [Nat.eq_of_beq_eq_true h1,Nat.eq_of_beq_eq_true h2,Nat.eq_of_beq_eq_true h3,Nat.eq_of_beq_eq_true h4]
  ·cases h
def R1:Option Ob->Option Ob->Bool
 |some (.arr z r f e),some (.arr z' r' f' e')=>Nat.beq z z' && x9 (x9 (AI 9)) r r' && Nat.beq f f' && KK e e'
 |_,_=>false
theorem Yz {a b:Option Ob}(h:R1 a b=true):a=b:=by
 unfold R1 at h
 split at h
 ·simp only [Bool.and_eq_true] at h
  obtain⟨⟨⟨h1,h2⟩,h3⟩,h4⟩:=h
  rw [Nat.eq_of_beq_eq_true h1,ru (fun _ _=>ru uG) h2,Nat.eq_of_beq_eq_true h3,C9 h4]
 ·cases h
section
variable {P:Program}{w0:World}{n:Nat}{α:AA}{S S' N:ad}{r:AV}
theorem St.YA {A:Nat->Prop}{g:Gh}{w:World}{k m fz:Nat}{rows:List (List AV)}{ex:Bool}(hS:St w0 A g S w) (hk:S.get k=some (.arr m rows fz ex)) :
  Ext A g w (g.still (ad.none_.set k (some (.arr m rows fz ex)))) w/\St w0 A (g.still (ad.none_.set k (some (.arr m rows fz ex)))) (S.set k (some (.arr m rows rows.length ex))) w:=by
 obtain⟨N,hN⟩:∃ N:ad,N=ad.none_.set k (some (.arr m rows fz ex)):=⟨_,rfl⟩
 rw [<-hN]
 have AD:∀ j o,N.get j=some o->j=k/\o=.arr m rows fz ex:=fun j o hj=>by
  rw [hN] at hj
  have hj:a8 (fun _=>none) k (some (Ob.arr m rows fz ex)) j=some o:=hj
  by_cases e:j=k
  ·subst e;rw [aq] at hj;exact⟨rfl,(oJ_ hj).symm⟩
  ·rw [aC _ _ e] at hj;cases hj
 have B5:N.get k=some (.arr m rows fz ex):=by
  rw [hN]
  exact aq _ _ _
 have sH:∀ b q,(g.still N).fz b q ↔ (g.fz b q\/∃ k sz rows fz ex,N.get k=some (.arr sz rows fz ex)/\g.al k/\b=g.ob k/\q < rows.length*sz):=fun b q=>Iff.rfl
 have hL:Later g w (g.still N) w:=⟨fun _ h=>h,fun _ _=>rfl,fun _ _=>rfl,fun b q h=>.inl h,fun _ _ _=>rfl⟩
 have h':∀ j o,(S.set k (some (.arr m rows rows.length ex))).get j=some o->(j=k/\o=.arr m rows rows.length ex)\/(j ≠ k/\S.get j=some o):=fun j o hj=>by
  have hj:a8 S.get k (some (.arr m rows rows.length ex)) j=some o:=hj
  by_cases e:j=k
  ·subst e;rw [aq] at hj;exact .inl ⟨rfl,(oJ_ hj).symm⟩
  ·rw [aC _ _ e] at hj;exact .inr ⟨e,hj⟩
 have any:∀ j o,(S.set k (some (.arr m rows rows.length ex))).get j=some o->∃ o0,S.get j=some o0/\∀ J,o=.fo J->o0=.fo J:=fun j o hj=>by
  rcases h' j o hj with ⟨rfl,rfl⟩|⟨_,h⟩
  ·exact⟨_,hk,fun J h=>by cases h⟩
  ·exact⟨_,h,fun J h=>h⟩
 have Oc:∀ j o q,j ≠ k->S.get j=some o->g.al j->(g.still N).fz (g.ob j) q->g.fz (g.ob j) q:=fun j o q a_ hj ha hq=>by
  rcases (sH _ q).1 hq with hq|⟨i,sz,Vp,f,e,hi,aO,he,_⟩
  ·exact hq
  ·obtain⟨rfl,kW⟩:=AD i _ hi
   exact absurd (hS.inj j i _ _ hj hk ha aO he) a_
 refine⟨{ hL with size:=Nat.le_refl _,a7:=fun _ _ _=>rfl,gF:=fun b q hq=>?_ },⟨hS.base,hS.up,hS.lo,fun j hj=>hS.al j hj,fun j o hj ha=>?_,fun i j o p hi hj ai aj e=>?_,fun b q hq=>?_,fun b q hb=>.inl (hS.nS b q hb),
  fun j J hj ha c hc=>?_,fun j J i o hj ha hi ai a_ hc=>?_,fun i j J J' hi hj ai aj=>?_⟩⟩
 ·rcases (sH b q).1 hq with hq|⟨i,sz,Vp,f,e,hi,aO,rfl,_⟩
  ·exact .inl hq
  ·obtain⟨rfl,_⟩:=AD i _ hi
   exact .inr (hS.bR i _ hk aO).1
 ·have cz:g.al j:=ha
  rcases h' j o hj with ⟨rfl,rfl⟩|⟨a_,eN⟩
  ·obtain⟨k2,k3,cs,ty,p1,p2,p3,p4,p5,p6,p7⟩:=hS.bR j _ hk cz
   refine⟨k2,k3,cs,ty,p1,p2,p3,p4,fun i row hi=>?_,Nat.le_refl _,fun q=>⟨fun hq=>?_,fun hq=>.inr ⟨j,m,rows,fz,ex,B5,cz,rfl,hq⟩⟩⟩
   ·obtain⟨q1,q2⟩:=p5 i row hi
    refine⟨q1,fun p a hp=>?_⟩
    obtain⟨x,hx,hr⟩:=q2 p a hp
    exact⟨x,hx,hr.later hL⟩
   ·rcases (sH _ q).1 hq with hq|⟨i,sz,Vp,f,e,hi,aO,he,aA⟩
    ·exact Nat.lt_of_lt_of_le ((p7 q).1 hq) (Nat.mul_le_mul_right _ p6)
    ·obtain⟨rfl,kW⟩:=AD i _ hi
     cases kW
     exact aA
  ·obtain⟨k2,k3,k4⟩:=hS.bR j o eN cz
   refine⟨k2,k3,k4.later hL rfl (fun q hq=>Oc j o q a_ eN cz hq) fun J hJ=>⟨rfl,Nat.le_refl _,fun _ _=>rfl,fun c q hc hq=>?_⟩⟩
   rcases (sH c q).1 hq with hq|⟨i,sz,Vp,f,e,hi,aO,rfl,_⟩
   ·exact hq
   ·obtain⟨rfl,_⟩:=AD i _ hi
    subst hJ
    exact absurd hc (hS.jW j J i _ eN cz hk aO fun e=>a_ e.symm)
 ·obtain⟨o0,e1,_⟩:=any i o hi
  obtain⟨p0,e2,_⟩:=any j p hj
  exact hS.inj i j _ _ e1 e2 ai aj e
 ·rcases (sH b q).1 hq with hq|⟨i,sz,Vp,f,e,hi,aO,rfl,_⟩
  ·exact hS.cC b q hq
  ·obtain⟨rfl,_⟩:=AD i _ hi
   exact (hS.bR i _ hk aO).2.1
 ·obtain⟨o0,e1,e2⟩:=any j _ hj
  rw [e2 J rfl] at e1
  exact hS.ic j J e1 ha c hc
 ·obtain⟨o0,e1,e2⟩:=any j _ hj
  rw [e2 J rfl] at e1
  obtain⟨p0,e3,_⟩:=any i _ hi
  exact hS.jW j J i _ e1 ha e3 ai a_ hc
 ·obtain⟨o0,e1,e2⟩:=any i _ hi
  rw [e2 J rfl] at e1
  obtain⟨p0,e3,e4⟩:=any j _ hj
  rw [e4 J' rfl] at e3
  exact hS.lV i j J J' e1 e3 ai aj
theorem St.share {A:Nat->Prop}{g:Gh}{w:World}{kb k sz sz' fz Er m:Nat}{cs:List AV}{rows:List (List AV)}{ex ex':Bool}(hS:St w0 A g S w) (hb:S.get kb=some (.arr sz [.ob k sz' 0 m none::cs] fz ex)) (hk:S.get k=some (.arr sz' rows Er ex')) (a_:kb ≠ k) (hm:m=rows.length) :
  ∃ g',Ext A g w g' w/\St w0 A g' ((S.set k (some (.arr sz' rows rows.length ex'))).set kb (some (.arr sz [.sl false rows::cs] fz ex))) w:=by
 obtain⟨hE,eR⟩:=hS.YA hk
 refine⟨_,hE,?_⟩
 have hF:bp (ad.none_.set k (some (.arr sz' rows Er ex'))) (.ob k sz' 0 m none) (.sl false rows):=.ob (aq _ _ _) (by omega) hm.symm (fun i row aV h1 h2=>by rw [Nat.zero_add,h2] at h1;rw [oJ_ h1]) fun i j row aV a a' h1 h2 h3 h4=>by
  rw [Nat.zero_add,h2] at h1
  obtain rfl:=oJ_ h1
  rw [h3] at h4
  obtain rfl:=oJ_ h4
  exact .refl _
 obtain⟨N,hN⟩:∃ N:ad,N=ad.none_.set k (some (.arr sz' rows Er ex')):=⟨_,rfl⟩
 rw [<-hN] at hF eR ⊢
 have U7:St w0 A g ⟨N.get,S.nx⟩ w:=hS.forget (Nat.le_refl _) fun j p hj _=>by
  rw [hN] at hj
  have hj:a8 (fun _=>none) k (some (Ob.arr sz' rows Er ex')) j=some p:=hj
  by_cases e:j=k
  ·subst e;rw [aq] at hj;rw [<-hj];exact hk
  ·rw [aC _ _ e] at hj;cases hj
 have Iq:bp ⟨N.get,S.nx⟩ (.ob k sz' 0 m none) (.sl false rows):=hF.mono (S:=N) (T:=⟨N.get,S.nx⟩) fun _ _ _ _ _ h=>h
 refine eR.E_ (Nat.le_refl _) fun i o' hi ha=>?_
 have hi:a8 (S.set k (some (.arr sz' rows rows.length ex'))).get kb (some (.arr sz [.sl false rows::cs] fz ex)) i=some o':=hi
 by_cases e:i=kb
 ·subst e
  rw [aq] at hi
  obtain rfl:=oJ_ hi
  have jj:(S.set k (some (.arr sz' rows rows.length ex'))).get i=some (.arr sz [.ob k sz' 0 m none::cs] fz ex):=by
   show a8 S.get k _ i=_
   rw [aC _ _ a_]
   exact hb
  refine⟨_,jj,fun h=>?_,fun J h=>by cases h⟩
  obtain⟨cs2,ty,h1,h2,h3,h4,h5,h6,h7⟩:=h
  have cz:g.al i:=ha
  obtain⟨_,_,xx,ty0,b1,b2,b3,b4,b5,b6,b7⟩:=hS.bR i _ hb cz
  have e1:w.heap[g.ob i]?=some (.cells cs2 ty (0,0)):=h1
  rw [e1] at b1
  simp only [oI_,Obj.cells.injEq] at b1
  obtain⟨rfl,rfl,_⟩:=b1
  refine⟨cs2,ty,h1,h2,h3,h4,fun r aV hr=>?_,h6,h7⟩
  cases r with
  |succ r=>simp at hr
  |zero =>
   simp only [List.getElem?_cons_zero,oI_] at hr
   subst hr
   obtain⟨q1,q2⟩:=h5 0 _ rfl
   refine⟨q1,fun p a hp=>?_⟩
   cases p with
   |zero =>
    simp only [List.getElem?_cons_zero,oI_] at hp
    subst hp
    obtain⟨x,hx,dH⟩:=(b5 0 _ rfl).2 0 _ rfl
    exact⟨x,hx,Iq.rep U7 dH⟩
   |succ p=>exact q2 (p+1) a hp
 ·rw [aC _ _ e] at hi
  exact⟨o',hi,fun h=>h,fun J h=>h⟩
theorem aK.share {f:FuncId}{args:List AV}{kb k sz sz' fz Er m:Nat}{cs:List AV}{rows:List (List AV)}{ex ex':Bool}(hb:S.get kb=some (.arr sz [.ob k sz' 0 m none::cs] fz ex)) (hk:S.get k=some (.arr sz' rows Er ex')) (a_:kb ≠ k) (hm:m=rows.length)
  (h:aK P w0 f args ((S.set k (some (.arr sz' rows rows.length ex'))).set kb (some (.arr sz [.sl false rows::cs] fz ex))) r S'):aK P w0 f args S r S':=by
 refine⟨h.1,fun F q A g aQ w hF hS hA=>?_⟩
 obtain⟨g1,hE,eT⟩:=hS.share hb hk a_ hm
 refine (h.2 F q A g1 aQ w hF eT ⟨hA.1,fun i a x h1 h2=>(hA.2 i a x h1 h2).later hE.toLater⟩).mono ?_
 rintro e w' ⟨v,g',rfl,h1,h2,h3⟩
 exact⟨v,g',rfl,h1,h2,hE.trans h3⟩
theorem aK.Eg {f:FuncId}{args aQ:List AV}{Pc:ad}(hN:∀ k o,N.get k=some o->S.get k=some o) (hx:S.nx<=S'.nx) (h':∀ k o,S'.get k=some o->S.get k=some o/\N.get k=none) (hf:fH N args aQ) (h:aK P w0 f aQ S' r Pc):aK P w0 f args S r Pc:=by
 refine⟨h.1,fun F m A g xs w hF hS hA=>?_⟩
 obtain⟨hE,eR⟩:=hS.Eg hN hx h'
 have nQ:iP (g.still N) w aQ xs:=by
  refine⟨hA.1.trans hf.len,fun i a x ha hx=>?_⟩
  have hi:i < args.length:=by rw [hf.len];exact (List.getElem?_eq_some_iff.1 ha).1
  have h0:=List.getElem?_eq_getElem hi
  have xP:St w0 A g ⟨N.get,S.nx⟩ w:=hS.forget (Nat.le_refl _) fun j p hj _=>hN j p hj
  have hr:=(hf.at i _ a h0 ha)
  exact (hr.mono (S:=N) (T:=⟨N.get,S.nx⟩) fun _ _ _ _ _ h=>h).rep xP (hA.2 i _ x h0 hx)
 refine (h.2 F m A (g.still N) xs w hF eR nQ).mono ?_
 rintro e w' ⟨v,g',rfl,k1,k2,k3⟩
 exact⟨v,g',rfl,k1,k2,hE.trans k3⟩
end
section
set_option maxRecDepth 100000
attribute [local irreducible] ah aK ae aa
def Vq:CF Tryz.f292:=⟨_,by conv=>lhs;cbv⟩
theorem E1:aT Tryz.prog 292 Vq.1 Tryz.f292.ntmps:=bX Tryz.func292 Vq.2 Tryz.call292
def eZ:List Nat:=[0,6,1,26,7,4,5,8,17,25,27,45]
def gN (ρ:Hd):List (Nat × Option Ob):=[(0,some (gO 0 0)),(1,some (dO ρ [])),(2,some (bB ρ [])),(3,some (dP ρ [])),(4,some (dQ ρ [])),(5,some (bB ρ [])),(6,some (dR ρ []))]
theorem gNB {ρ:Hd}:gk (cV (aN []) 0 0) (gS ρ ⟨[],[],⟨[],[],[]⟩⟩ []) (gN ρ) :=
 ⟨⟨0,_,rfl,rfl,.row ⟨.gr rfl,.mp rfl,.gr rfl,.mp rfl,.mp rfl,.mp rfl,trivial⟩⟩,⟨1,_,rfl,rfl,.pure (pv _)⟩,⟨2,_,rfl,rfl,.mb (dT ia _)⟩,⟨3,_,rfl,rfl,.pure (pw _)⟩,⟨4,_,rfl,rfl,.mp (dT ia _)⟩,⟨5,_,rfl,rfl,.mb (dT ia _)⟩,⟨6,_,rfl,rfl,.mp (dT sf _)⟩,trivial⟩
def gP (ρ:Hd) (i j q nl ul x y:Nat) (N:bj) (vs:List (Int × Int)) (up:List Nat) (sh ls:List (Int × Int)) (kn:KN):List (Nat × Ob):=[(0,nt i j nl ul),(i,dO ρ N),(2,bB ρ vs),(j,dP ρ up),(4,dQ ρ sh),(5,bB ρ ls),(6,dR ρ kn),(q,.arr 2 [px (x,y)] 0 false)]
theorem abk {ρ:Hd}{i j q nl ul x y:Nat}{N:bj}{vs:List (Int × Int)}{up:List Nat}{sh ls:List (Int × Int)}{kn:KN}{T:ad}(h0:T.get 0=some (nt i j nl ul):=by rfl) (h1:T.get i=some (dO ρ N):=by rfl) (h2:T.get 2=some (bB ρ vs):=by rfl) (h3:T.get j=some (dP ρ up):=by rfl) (h4:T.get 4=some (dQ ρ sh):=by rfl) (h5:T.get 5=some (bB ρ ls):=by rfl) (h6:T.get 6=some (dR ρ kn):=by rfl) (h7:T.get q=some (.arr 2 [px (x,y)] 0 false):=by rfl):fu T (gP ρ i j q nl ul x y N vs up sh ls kn):=by
 intro p hp
 unfold gP at hp
 simp only [List.mem_cons,List.not_mem_nil,or_false] at hp
 rcases hp with rfl|rfl|rfl|rfl|rfl|rfl|rfl|rfl<;>assumption
theorem gPN {ρ:Hd}{i j q nl ul x y:Nat}{N:bj}{vs:List (Int × Int)}{up:List Nat}{sh ls:List (Int × Int)}{kn:KN}{T:ad}(h:fu T (gP ρ i j q nl ul x y N vs up sh ls kn)):ir (aN [(1,i),(3,j),(7,q)]) 8 T (gX ρ nl ul N vs up sh ls kn++[(7,xW ρ [(x,y)])]):=by
 have h0:T.get 0=some (nt i j nl ul):=h (0,nt i j nl ul) (by simp [gP])
 have h1:T.get i=some (dO ρ N):=h (i,dO ρ N) (by simp [gP])
 have h2:T.get 2=some (bB ρ vs):=h (2,bB ρ vs) (by simp [gP])
 have h3:T.get j=some (dP ρ up):=h (j,dP ρ up) (by simp [gP])
 have h4:T.get 4=some (dQ ρ sh):=h (4,dQ ρ sh) (by simp [gP])
 have h5:T.get 5=some (bB ρ ls):=h (5,bB ρ ls) (by simp [gP])
 have h6:T.get 6=some (dR ρ kn):=h (6,dR ρ kn) (by simp [gP])
 have h7:T.get q=some (.arr 2 [px (x,y)] 0 false):=h (q,.arr 2 [px (x,y)] 0 false) (by simp [gP])
 have e7:xW ρ [(x,y)]=.arr 2 [px (x,y)] 0 false:=by unfold xW;rw [ρ.eq];rfl
 rw [e7]
 exact⟨⟨_,h0,.row ⟨.gr rfl rfl,.mp rfl rfl,.gr rfl rfl,.mp rfl rfl,.mp rfl rfl,.mp rfl rfl,trivial⟩⟩,⟨_,h1,.pure (pv _)⟩,⟨_,h2,.mb (dT ia _)⟩,⟨_,h3,.pure (pw _)⟩,
  ⟨_,h4,.mp (dT ia _)⟩,⟨_,h5,.mb (dT ia _)⟩,⟨_,h6,.mp (dT sf _)⟩,⟨_,h7,.pure (fun row hr a ha=>by
   obtain rfl:=List.mem_singleton.1 hr
   simp only [px,List.mem_cons,List.not_mem_nil,or_false] at ha
   rcases ha with rfl|rfl<;>exact .v)⟩,trivial⟩
def gWj (ρ:Hd) (a i j q nl ul:Nat) (N:bj) (vs:List (Int × Int)) (up:List Nat) (sh ls:List (Int × Int)) (kn:KN):List (Nat × Option Ob):=[(0,some (nt i j nl ul)),(i,some (dO ρ N)),(2,some (bB ρ vs)),(j,some (dP ρ up)),(4,some (dQ ρ sh)),(5,some (bB ρ ls)),(6,some (dR ρ kn)),(q,none),
 (a,none),(a+1,none),(a+2,none),(a+3,none),(a+4,none),(a+5,none),(a+6,none),(a+7,none)]
theorem ako {ρ:Hd}{a i j q nl ul:Nat}{N:bj}{vs:List (Int × Int)}{up:List Nat}{sh ls:List (Int × Int)}{kn:KN}:gk (cV (aN [(1,i),(3,j),(7,q)]) 8 a) (gX ρ nl ul N vs up sh ls kn) (gWj ρ a i j q nl ul N vs up sh ls kn) :=
 ⟨⟨0,_,rfl,rfl,.row ⟨.gr rfl,.mp rfl,.gr rfl,.mp rfl,.mp rfl,.mp rfl,trivial⟩⟩,⟨1,_,rfl,rfl,.pure (pv _)⟩,⟨2,_,rfl,rfl,.mb (dT ia _)⟩,⟨3,_,rfl,rfl,.pure (pw _)⟩,⟨4,_,rfl,rfl,.mp (dT ia _)⟩,⟨5,_,rfl,rfl,.mb (dT ia _)⟩,⟨6,_,rfl,rfl,.mp (dT sf _)⟩,trivial⟩
theorem Pu {α:Type}{l:List α}{m:Nat}{x:α}(h:l[m]?=some x):l.drop m=x::l.drop (m+1):=by
 obtain⟨h1,h2⟩:=List.getElem?_eq_some_iff.1 h
 rw [List.drop_eq_getElem_cons h1,h2]
section
variable {w0:World}{ρ:Hd}
theorem KL {l r:List Tm}{b:Bool}{s':PS}{ex:Bool}{rows:List (List AV)}{cc:Int}(hl:l.length<=100000000000) (qF:ah Tryz.prog w0 336 [tl ρ l] (.v (.bool true))) (uH:ah Tryz.prog w0 336 [tl ρ r] (.v (.bool true))) (zJ:∀ x ∈ l,eW x/\jM x) (zK:∀ x ∈ r,eW x/\jM x)
  (hlen:l.length=r.length) (hB:wa (l.zip r)<=100000000000) (hA:oJ (l.zip r) ⟨[],[],⟨[],[],[]⟩⟩ b s') (hpo:Pure (.sl ex rows)) (hb:b=false->(ex=true/\rows=[])/\cc=13)
  (akp:b=true->aK Tryz.prog w0 340 [.pt 0 6 0 0] (au (gS ρ s' []) 7) (.aE [.sl ex rows,iv cc]) (au [] 7)) :
  aK Tryz.prog w0 292 [tl ρ l,tl ρ r] (au [] 0) (.aE [.sl ex rows,iv cc]) (au [] 0):=by
 have oG:Pure (.aE [.sl ex rows,iv cc]):=.aE fun a ha=>by
  simp only [List.mem_cons,List.not_mem_nil,or_false] at ha
  rcases ha with rfl|rfl
  ·exact hpo
  ·exact .v
 refine aT.fM 0 0 _ E1 (by simp [Tryz.ntmps292]) rfl rfl ?_
 refine gq eZ ?_
 refine aa.op rfl (ae.aL rfl qF ⟨bl _,trivial⟩) ?_
 refine gq eZ ?_
 refine aa.op rfl (ae.aL rfl uH ⟨bl _,trivial⟩) ?_
 refine gq eZ ?_
 refine bL fun q1 BP=>?_
 rw [aF] at BP
 refine gq eZ ?_
 refine bL fun q2 pX=>?_
 rw [aF] at pX
 refine gq eZ ?_
 refine bq (fun eB=>?_) (fun eB=>?_)<;>(try simp only [aM] at eB)
 ·exfalso;omega
 refine gq eZ ?_
 refine aa.op rfl (ae.oK [] (gN ρ) KF rfl trivial (.pt rfl) trivial gNB) ?_
 refine gq eZ ?_
 refine bL fun q3 BH=>?_
 rw [aF] at BH
 refine gq eZ ?_
 refine aa.bP (σ:=Int × PS × Nat × Nat) 7 9 [(7,1),(8,3)] (fun p=>[(0,tl ρ l),(1,tl ρ r),(4,.sl true []),(5,iv 0),(6,.pt 0 6 0 0),(25,iv q3),(26,iv p.1)]) []
  (fun p=>[(0,nt 7 8 p.2.2.1 p.2.2.2),(2,bB ρ p.2.1.vs),(4,dQ ρ p.2.1.js.sh),(5,bB ρ p.2.1.js.ls),(6,dR ρ []),(7,dO ρ p.2.1.N),(8,dP ρ p.2.1.js.up)])
  (fun p=>∃ m:Nat,p.1=m/\m<=l.length/\GI p.2.1/\p.2.1.N.length+wa ((l.zip r).drop m)<=100000000000/\oJ ((l.zip r).drop m) p.2.1 b s'/\p.2.2.1=p.2.1.N.length/\p.2.2.2=p.2.1.js.up.length) (fun p=>l.length - p.1.toNat)
  (0,⟨[],[],⟨[],[],[]⟩⟩,0,0) ⟨0,rfl,by simp,.nil,by simpa using hB,by simpa using hA,rfl,rfl⟩ rfl (by exact⟨sq,rfl,Pk,rfl,rfl,rfl⟩) ?_
 rintro⟨mi,⟨N1,kC,⟨fZ,jK,jx⟩⟩,n1,u1⟩ ⟨m,hm,GR,B6,bh,DF,nn,gL⟩
 simp only at hm GR B6 bh DF nn gL
 refine gq eZ ?_
 refine bq (fun eg=>?_) (fun eg=>?_)<;>(try simp only [aM] at eg)
 ·have cT:m < l.length:=by omega
  obtain⟨x,hx⟩:∃ x,l[m]?=some x:=⟨_,List.getElem?_eq_getElem cT⟩
  obtain⟨y,hy⟩:∃ y,r[m]?=some y:=⟨_,List.getElem?_eq_getElem (by omega)⟩
  have hd:=Pu (List.getElem?_zip_eq_some (z:=(x,y)) |>.2 ⟨hx,hy⟩)
  rw [hd] at bh DF
  rw [wa] at bh
  simp only at bh
  obtain⟨wx,ax⟩:=zJ x (List.mem_of_getElem? hx)
  obtain⟨wy,ay⟩:=zK y (List.mem_of_getElem? hy)
  obtain⟨g2,z2⟩:=B6.add wx ax
  have k1:=Vk (w0:=w0) (ρ:=ρ) (fX x) _ x [] (Nat.le_refl _) B6.V B6.F wx ax B6.A (by simp only;omega)
  obtain⟨⟨⟨N2,uC,⟨ml,pT,pU⟩⟩,rx⟩,iN⟩:∃ p,p=bH ⟨N1,kC,⟨fZ,jK,jx⟩⟩ x:=⟨_,rfl⟩
  have C_:(∃ m' j,fl (bH (bH ⟨N1,kC,⟨fZ,jK,jx⟩⟩ x).1 y).1.N m' [((bH ⟨N1,kC,⟨fZ,jK,jx⟩⟩ x).2,(bH (bH ⟨N1,kC,⟨fZ,jK,jx⟩⟩ x).1 y).2)] (bH (bH ⟨N1,kC,⟨fZ,jK,jx⟩⟩ x).1 y).1.js=some (false,j)/\b=false) \/
    (∃ m' j,fl (bH (bH ⟨N1,kC,⟨fZ,jK,jx⟩⟩ x).1 y).1.N m' [((bH ⟨N1,kC,⟨fZ,jK,jx⟩⟩ x).2,(bH (bH ⟨N1,kC,⟨fZ,jK,jx⟩⟩ x).1 y).2)] (bH (bH ⟨N1,kC,⟨fZ,jK,jx⟩⟩ x).1 y).1.js=some (true,j)/\oJ ((l.zip r).drop (m+1)) ⟨(bH (bH ⟨N1,kC,⟨fZ,jK,jx⟩⟩ x).1 y).1.N,(bH (bH ⟨N1,kC,⟨fZ,jK,jx⟩⟩ x).1 y).1.vs,j⟩ b s'):=by
   cases DF with
   |no h=>exact .inl ⟨_,_,h,rfl⟩
   |go h k=>exact .inr ⟨_,_,h,k⟩
  rw [<-iN] at k1 g2 z2 C_
  simp only at g2 z2 C_
  obtain⟨g3,z3⟩:=g2.add wy ay
  have k2:=Vk (w0:=w0) (ρ:=ρ) (fX y) _ y [] (Nat.le_refl _) g2.V g2.F wy ay g2.A (by simp only;omega)
  obtain⟨⟨⟨N3,G5,⟨BY,BJ,xL⟩⟩,ry⟩,UZ⟩:∃ p,p=bH ⟨N2,uC,⟨ml,pT,pU⟩⟩ y:=⟨_,rfl⟩
  rw [<-UZ] at k2 g3 z3 C_
  simp only at g3 z3 C_
  clear iN UZ DF
  obtain⟨n2,wb⟩:∃ n2,n2=N2.length:=⟨_,rfl⟩
  obtain⟨u2,iX⟩:∃ u2,u2=ml.length:=⟨_,rfl⟩
  obtain⟨n3,Ep⟩:∃ n3,n3=N3.length:=⟨_,rfl⟩
  obtain⟨u3,qE⟩:∃ u3,u3=BY.length:=⟨_,rfl⟩
  rw [<-fQ nn gL.symm] at k1
  rw [<-fQ wb iX.symm] at k2
  have k1':aK Tryz.prog w0 339 [.pt 0 6 0 0,tm ρ x] (au (gX ρ n1 u1 N1 kC fZ jK jx []) 7) (iv (rx:Nat)) (au (Pm ρ n2 u2 N2 uC ml pT pU []) 9):=by rw [wb,iX];exact k1
  have k2':aK Tryz.prog w0 339 [.pt 0 6 0 0,tm ρ y] (au (gX ρ n2 u2 N2 uC ml pT pU []) 7) (iv (ry:Nat)) (au (Pm ρ n3 u3 N3 G5 BY BJ xL []) 9):=by rw [Ep,qE];exact k2
  obtain⟨bb,m',⟨up4,sh4,ls4⟩,hj,zx⟩:∃ bb m' j,fl N3 m' [(rx,ry)] ⟨BY,BJ,xL⟩=some (bb,j)/\((bb=false/\b=false)\/(bb=true/\oJ ((l.zip r).drop (m+1)) ⟨N3,G5,j⟩ b s')):=by
   rcases C_ with ⟨m',j,h1,h2⟩|⟨m',j,h1,h2⟩
   ·exact⟨false,m',j,h1,.inl ⟨rfl,h2⟩⟩
   ·exact⟨true,m',j,h1,.inr ⟨rfl,h2⟩⟩
  have g4:=g3.join hj
  have hu4:up4.length=u3:=by have:=n_ hj;simp only at this;omega
  have k3:=aa5 (w0:=w0) (ρ:=ρ) (vs:=G5) (kn:=[]) (Ee.of g3.G g3.A) (by have:=g3.V.up;simp only at this z3 z2 ⊢;omega) hj
  rw [<-fQ Ep qE.symm,<-fQ Ep hu4] at k3
  clear k1 k2 C_
  refine gq eZ ?_
  refine aa.gm rfl (fun T=>ae.ind rfl rfl (lj (l:=l) hm hx) ll) ?_
  refine gq eZ ?_
  refine aa.lP rfl (bc.oK [(1,7),(3,8)] (gZ ρ 7 8 n1 u1 N1 kC fZ jK jx []) (gW ρ 9 7 8 n2 u2 N2 uC ml pT pU []) k1' rfl ⟨.pt rfl rfl,.pure (cK x),trivial⟩ (.pure .v) x7 (fun T hT=>Pl hT) Vi) ?_
  refine gq eZ ?_
  refine aa.gm rfl (fun T=>ae.ind rfl rfl (lj (l:=r) hm hy) ll) ?_
  refine gq eZ ?_
  refine aa.lP rfl (bc.oK [(1,16),(3,17)] (gZ ρ 16 17 n2 u2 N2 uC ml pT pU []) (gW ρ 25 16 17 n3 u3 N3 G5 BY BJ xL []) k2' rfl ⟨.pt rfl rfl,.pure (cK y),trivial⟩ (.pure .v) x7 (fun T hT=>Pl hT) Vi) ?_
  refine aa.gm rfl (fun T=>ae.quiet rfl) ?_
  refine aa.lP rfl (bc.ad8 rfl) ?_
  refine gq eZ ?_
  refine aa.lP rfl (bc.oK [(1,32),(3,33),(7,41)] (gP ρ 32 33 41 n3 u3 rx ry N3 G5 BY BJ xL []) (gWj ρ 42 32 33 41 n3 u3 N3 G5 up4 sh4 ls4 []) k3 rfl ⟨.pt rfl rfl,.gr rfl rfl,trivial⟩ (.pure .v) abk (fun T hT=>gPN hT) ako) ?_
  rcases zx with ⟨rfl,hbf⟩|⟨rfl,hk⟩
  ·obtain⟨⟨rfl,rfl⟩,rfl⟩:=hb hbf
   refine gq eZ ?_
   refine aa.iB ?_
   refine gq eZ ?_
   refine fq ?_
   exact⟨[],.aB (Pure.b9 oG),trivial,rfl⟩
  ·refine gq eZ ?_
   refine cr (fun m2 gH=>?_)
   refine gq eZ ?_
   refine aa.bm (σ:=Int × PS × Nat × Nat) (m2,⟨N3,G5,⟨up4,sh4,ls4⟩⟩,n3,u3) [(7,32),(8,33)] ⟨m+1,by simp only;omega,by omega,g4,by simp only at z3 z2 ⊢;omega,hk,Ep,hu4.symm⟩ ?_ (by exact⟨sq,rfl,Pk,rfl,rfl,rfl⟩)
   simp only;omega
 ·have cT:m=l.length:=by omega
  rw [cT,List.drop_of_length_le (by rw [List.length_zip];omega)] at DF
  obtain⟨rfl,rfl⟩:b=true/\s'=⟨N1,kC,⟨fZ,jK,jx⟩⟩:=by cases DF;exact⟨rfl,rfl⟩
  have k:=akp rfl
  rw [<-fQ nn gL.symm] at k
  refine gq eZ ?_
  refine aa.aR ?_
  refine gq eZ ?_
  refine aa.op rfl (ae.oK [(1,7),(3,8)] [(0,none),(7,none),(2,none),(8,none),(4,none),(5,none),(6,none),(9,none),(10,none),(11,none),(12,none),(13,none),(14,none),(15,none)] k rfl ⟨.pt rfl rfl,trivial⟩ (.pure oG) (Pl x7) trivial) ?_
  refine gq eZ ?_
  refine fq ?_
  exact⟨[],.aB (Pure.b9 oG),trivial,rfl⟩
end
end
end Go.Proofs.YtgjfgekaclobaaaGreat
