import Derived.Test.YtgjfgekaclobaaaGreatCm39
namespace Go.Proofs.YtgjfgekaclobaaaGreat
set_option linter.unusedVariables false
set_option linter.unusedSimpArgs false
open Go.RowKit
section
variable {P:Program}{w0:World}{n:Nat}{o:Oper}{α:AA}{S S':aa}{r:AV}
theorem ad.aaO {m k sz off len:Nat}{x:QO}{lo hi:Option QO}{l h:Int}{rows:List (List AV)}{fz:Nat}{ex:Bool}(hx:x.ev α.tm=.ob k sz off len none) (hk:S.get k=some (.arr sz rows fz ex)) (hm:m=sz) (hl:j8 α.tm lo 0=some l) (hh:j8 α.tm hi len=some h) (h0:0<=l) (h1:l < h) (h2:off+h<=rows.length) :
  ad P w0 false (.slice (.sl m) x lo hi none) α S (.ob k sz (off+l.toNat) (h.toNat - l.toNat) none) S:=ad.run fun n o hr=>by
 obtain⟨t,u,l1,i1,m1,ho,rfl,rfl,rfl,cd,⟨hs,_⟩|⟨e,m',hs,hu,hz⟩⟩:=Er hr
 ·cases hs
 ·injection hs with hs
  subst hs hm
  have cd:m1=none:=by cases m1 with|none=>rfl|some _=>cases cd
  subst cd
  rw [aD] at hx
  refine aI.quiet fun A g q w hS hA=>?_
  have hx:=hA.ev u
  rw [show α.ev u=_ from ‹α.ev u=_›] at hx
  obtain⟨c,e1,aH,hc,hp,kM,hle⟩:=fj hx
  obtain⟨_,_,cs,ty,p1,p2,p3,_⟩:=hS.bj k _ hk aH
  have R_:=kM rfl
  have hb:=jo (P:=P) (isSl:=true) (len:=len) (cap:=c) (w:=w) hA (uI hl) (uI hh) h0 (by omega) (by omega)
  have aP:¬ c=l.toNat:=by omega
  have ga:(Instr.slice t (q.eval u) (l1.map q.eval) (i1.map q.eval) (Option.map q.eval none)).run P w=.ok (.slice (some ⟨g.ob k,(off+l.toNat)*m,none⟩) (h.toNat - l.toNat) (c - l.toNat)) w:=by
   simp [Instr.slice,e1,run_underlying hu,hb,bF hz,aP,dV,Nat.add_mul]
  have U6:(execOp q.eval o).run P w=.ok (.value (.slice (some ⟨g.ob k,(off+l.toNat)*m,none⟩) (h.toNat - l.toNat) (c - l.toNat))) w:=by
   simp only [execOp,ho,Sem.run_bind,rZ hu (fun k e h=>by cases h),ga,Result.andThen_ok]
   rfl
  exact⟨_,U6,.ob aH (fun m hm=>by cases hm) (by omega) (fun _=>by omega) (by omega)⟩
theorem FG {z:List AV}{a:QO}{o:Op}(h:res P.toTables o=some (.qt z a)):∃ c t u e zv,o=.call c/\c.callee=.builtin .clear/\c.argTypes=#[t]/\c.args=#[u]/\a=qo u/\P.underlying t=some (.slice e)/\b8 P e=some zv/\z=zv.cells.toList.map a8:=by
 cases o<;>simp only [res,a7,eK] at h<;>(repeat' split at h)<;>(try cases h)
 exact⟨_,_,_,_,_,rfl,by assumption,toList_one (by assumption),toList_one (by assumption),rfl,by assumption,by assumption,rfl⟩
theorem ad.SZ {z:List AV}{x:QO}{k sz off len fz:Nat}{cx:Option Nat}{rows:List (List AV)}{ex:Bool}(hx:x.ev α.tm=.ob k sz off len cx) (hk:S.get k=some (.arr sz rows fz ex)) (hz:z.length=sz) (je:eV bl z=true) (hp:off+len<=rows.length) (hf:fz<=off) (h0:0 < len) :
  ad P w0 false (.qt z x) α S (.aC []) (S.set k (some (.arr sz (rows.take off++List.replicate len z++rows.drop (off+len)) fz ex))):=ad.run fun n o hr=>by
 obtain⟨c,t,u,e,zv,ho,hc,eO,aT,rfl,hu,JT,rfl⟩:=FG hr
 rw [aD] at hx
 intro A g q w hS hA
 have h1:=hA.ev u
 rw [hx] at h1
 obtain⟨cc,e1,aH,_,_,_,hle⟩:=fj h1
 obtain⟨k2,k3,cs,ty,p1,p2,p3,p4,p5,p6,p7⟩:=hS.bj k _ hk aH
 have jN:zv.cells.size=sz:=by simpa using hz
 obtain⟨news,ou⟩:∃ news,news=(Builtin.zeroCells zv.cells len).toList:=⟨_,rfl⟩
 have dz:news.length=(List.replicate len (zv.cells.toList.map a8)).length*sz:=by rw [ou,Array.length_toList,size_zeroCells,List.length_replicate,jN]
 have gA:∀ i j,i < len->j < sz->∀ v,zv.cells[j]?=some v->news[i*sz+j]?=some v:=by
  intro i j hi hj v hv
  have aB:i*sz+j < len*sz:=iT hi hj
  have e1:(i*sz+j) % zv.cells.size=j:=by
   rw [jN,Nat.mul_comm,Nat.mul_add_mod]
   exact Nat.mod_eq_of_lt hj
  rw [ou,Array.getElem?_toList]
  unfold Builtin.zeroCells
  rw [Array.getElem?_map,Array.getElem?_range,if_pos (by rw [jN];exact aB)]
  simp only [Option.map_some,e1]
  rw [getElem!_pos zv.cells j (by omega),<-hv,Array.getElem?_eq_getElem (by omega)]
 obtain⟨hE,b_⟩:=hS.yN (p:=off) (more:=List.replicate len (zv.cells.toList.map a8)) (news:=news) hk aH p1 (fun r hr=>by rw [(List.mem_replicate.1 hr).2];exact hz) dz (fun i row j a hi ha=>by
  obtain⟨eL,rfl⟩:=List.getElem?_eq_some_iff.1 hi
  simp only [List.length_replicate] at eL
  simp only [List.getElem_replicate,List.getElem?_map,Option.map_eq_some_iff] at ha
  obtain⟨y,hy,rfl⟩:=ha
  have hj:j < sz:=by
   have:=(List.getElem?_eq_some_iff.1 hy).1
   simp at this
   omega
  exact⟨y,gA i j eL hj y (by rw [<-Array.getElem?_toList];exact hy),iZ y⟩) (by rw [List.length_replicate];exact hp) hf
 rw [List.length_replicate] at b_
 have aaP:∀ v ∈ news,v.oneCell'=true:=by
  intro v hv
  rw [ou] at hv
  have hv:=Array.mem_toList_iff.1 hv
  unfold Builtin.zeroCells at hv
  obtain⟨i,hi,rfl⟩:=Array.mem_map.1 hv
  have eL:=Array.mem_range.1 hi
  have aZ:0 < zv.cells.size:=by
   rcases Nat.eq_zero_or_pos zv.cells.size with e|e
   ·rw [e,Nat.mul_zero] at eL;omega
   ·exact e
  have hj:i % zv.cells.size < zv.cells.size:=Nat.mod_lt _ aZ
  rw [getElem!_pos zv.cells _ hj]
  have hm:a8 zv.cells[i % zv.cells.size] ∈ zv.cells.toList.map a8:=List.mem_map.2 ⟨_,Array.mem_toList_iff.2 (Array.getElem_mem hj),rfl⟩
  exact ot (g:=g) (w:=w) (cW je _ hm) (iZ _)
 have dD:off*sz+0+news.length<=cs.size:=by
  rw [dz,List.length_replicate,p2,Nat.add_zero,<-Nat.add_mul]
  exact Nat.mul_le_mul_right sz (by omega)
 have jS:=run_storeCells_at (P:=P) (g.ob k) (off*sz) ty news 0 cs w p1 dD aaP
 rw [Nat.add_zero] at jS
 refine⟨.tuple #[],_,g,.inl ?_,.aC rfl (fun i a x h=>by simp at h),b_,hE⟩
 have bw:(execOp q.eval o).run P w=((Builtin.clear_ #[t] o.type #[q.eval u]).run P w).andThen fun v w'=>.ok (.value v) w':=by
  simp [execOp,ho,resolve,hc,eO,aT,invoke,builtin]
 rw [bw,e1]
 obtain⟨gR,rfl⟩:∃ l,len=l+1:=⟨len - 1,by omega⟩
 rw [ou] at jS
 simp [Builtin.clear_,run_underlying hu,iX JT,jS,ou]
end
def Cm (q:cB) (f:Nat->AV) (s:XS):Option (AV × XS):=match q with
 |.g7 z by_ l c=>match l.ev f,c.ev f with
  |.v (.int _ i),.v (.int _ j)=>match decide (0<=i/\i < j/\j*by_<=35184372088832/\j<=9223372036854775807) && !cY s.yk s.nx with
   |true=>some (.ob s.nx z.length 0 i.toNat none,jA s (.arr z.length (List.replicate j.toNat z) 0 true))
   |false=>none
  |_,_=>none
 |.slice (.sl m) x lo hi none=>match x.ev f with
  |.ob k sz off len none=>match (dy s).get k,j8 f lo 0,j8 f hi len with
   |some (.arr sz' rows _ _),some l,some h=>match Nat.beq sz' sz && Nat.beq m sz && decide (0<=l/\l < h/\(len:Int) < h/\off+h<=rows.length) with
    |true=>some (.ob k sz (off+l.toNat) (h.toNat - l.toNat) none,s)
    |false=>none
   |_,_,_=>none
  |_=>none
 |.qt z x=>match x.ev f with
  |.ob k sz off len _=>match (dy s).get k with
   |some (.arr sz' rows fz ex)=>match Nat.beq sz' sz && Nat.beq z.length sz && eV bl z && Nat.ble (off+len) rows.length && Nat.ble fz off && Nat.blt 0 len with
    |true=>some (.aC [],jb s k (some (.arr sz (rows.take off++List.replicate len z++rows.drop (off+len)) fz ex)))
    |false=>none
   |_=>none
  |_=>none
 |.append sz by_ a b=>match a.ev f with
  |.ob k sz' 0 len none=>match (dy s).get k,cI (dy s) (b.ev f) with
   |some (.arr ew rows fz ex),some (x::more)=>match Nat.beq ew sz && Nat.beq sz' sz && Nat.ble (len+(x::more).length) rows.length && Nat.ble fz len && iV sz (x::more) && o6 bl (x::more) with
    |true=>some (.ob k sz 0 (len+(x::more).length) none,jb s k (some (.arr sz (rows.take len++(x::more)++rows.drop (len+(x::more).length)) fz ex)))
    |false=>none
   |_,_=>none
  |_=>none
 |.copy sz a b=>match a.ev f with
  |.ob k sz' off len _=>match cI (dy s) (b.ev f) with
   |some []=>some (.v (.int .i64 0),s)
   |some (x::more)=>match (dy s).get k with
    |some (.arr ew rows fz ex)=>match Nat.beq ew sz && Nat.beq sz' sz && Nat.ble (x::more).length len && Nat.ble (off+len) rows.length && Nat.ble fz off && iV sz (x::more) && o6 bl (x::more) with
     |true=>some (.v (.int .i64 (x::more).length),jb s k (some (.arr sz (rows.take off++(x::more)++rows.drop (off+(x::more).length)) fz ex)))
     |false=>none
    |_=>none
   |none=>none
  |_=>none
 |_=>none
section
variable {P:Program}{w0:World}{s s':XS}{r:AV}
theorem JU {q:cB}{f:Nat->AV}{df:List DE}(h:Cm q f s=some (r,s')):(∀ J,ad P w0 false q ⟨f,df⟩ (den J s) r (den J s'))/\cZ s s'/\s'.lg=s.lg:=by
 cases q with
 |g7 z by_ l c =>
  simp only [Cm] at h
  split at h
  ·rename_i k1 i k2 j hl hc
   split at h
   ·rename_i hd
    simp only [Bool.and_eq_true,Bool.not_eq_true'] at hd
    have dG:=of_decide_eq_true hd.1
    simp only [Option.some.injEq,Prod.mk.injEq] at h
    obtain⟨rfl,rfl⟩:=h
    refine⟨fun J=>?_,.nw,rfl⟩
    rw [gE hd.2]
    exact ad.aaA hl hc dG.1 (by omega) dG.2.2.1 dG.2.2.2
   ·cases h
  ·cases h
 |slice k x lo hi mx =>
  cases k with
  |str=>cases h
  |sl m =>
   cases mx with
   |some mx=>cases h
   |none =>
    simp only [Cm] at h
    split at h
    ·rename_i k sz off len hx
     split at h
     ·rename_i sz' rows fz ex l hh hk hl qQ
      split at h
      ·rename_i hc
       simp only [Bool.and_eq_true] at hc
       obtain⟨⟨h1,h2⟩,h3⟩:=hc
       have h1:=Nat.eq_of_beq_eq_true h1
       have h2:=Nat.eq_of_beq_eq_true h2
       have h3:=of_decide_eq_true h3
       subst h1
       simp only [Option.some.injEq,Prod.mk.injEq] at h
       obtain⟨rfl,rfl⟩:=h
       exact⟨fun J=>ad.aaO hx (cz (J:=J) hk).1 h2 hl qQ h3.1 h3.2.1 (by omega),.refl _,rfl⟩
      ·cases h
     ·cases h
    ·cases h
 |qt z x =>
  simp only [Cm] at h
  split at h
  ·rename_i k sz off len cx hx
   split at h
   ·rename_i sz' rows fz ex hk
    split at h
    ·rename_i hc
     simp only [Bool.and_eq_true] at hc
     obtain⟨⟨⟨⟨⟨h1,h2⟩,h3⟩,h4⟩,h5⟩,h6⟩:=hc
     have h1:=Nat.eq_of_beq_eq_true h1
     subst h1
     simp only [Option.some.injEq,Prod.mk.injEq] at h
     obtain⟨rfl,rfl⟩:=h
     refine⟨fun J=>?_,.wr,rfl⟩
     obtain⟨dL,eN⟩:=cz (J:=J) hk
     rw [gD eN]
     exact ad.SZ hx dL (Nat.eq_of_beq_eq_true h2) h3 (Nat.le_of_ble_eq_true h4) (Nat.le_of_ble_eq_true h5) (c_ h6)
    ·cases h
   ·cases h
  ·cases h
 |append sz by_ a b =>
  simp only [Cm] at h
  split at h
  ·rename_i k sz' len ha
   split at h
   ·rename_i ew rows fz ex x more hk hm
    split at h
    ·rename_i hc
     simp only [Bool.and_eq_true] at hc
     obtain⟨⟨⟨⟨⟨h1,h2⟩,h3⟩,h4⟩,h5⟩,h6⟩:=hc
     have h1:=Nat.eq_of_beq_eq_true h1
     have h2:=Nat.eq_of_beq_eq_true h2
     subst h1 h2
     simp only [Option.some.injEq,Prod.mk.injEq] at h
     obtain⟨rfl,rfl⟩:=h
     refine⟨fun J=>?_,.wr,rfl⟩
     obtain⟨dL,eN⟩:=cz (J:=J) hk
     rw [gD eN]
     exact ad.aaB ha dL (gj hm) (Nat.le_of_ble_eq_true h4) (Nat.le_of_ble_eq_true h3) (fun row hr=>⟨eB h5 row hr,List.all_eq_true.2 (jn h6 row hr)⟩)
    ·cases h
   ·cases h
  ·cases h
 |copy sz a b =>
  simp only [Cm] at h
  split at h
  ·rename_i k sz' off len cx ha
   split at h
   ·rename_i hm
    simp only [Option.some.injEq,Prod.mk.injEq] at h
    obtain⟨rfl,rfl⟩:=h
    exact⟨fun J=>ad.aay ha (gj hm),.refl _,rfl⟩
   ·rename_i x more hm
    split at h
    ·rename_i ew rows fz ex hk
     split at h
     ·rename_i hc
      simp only [Bool.and_eq_true] at hc
      obtain⟨⟨⟨⟨⟨⟨h1,h2⟩,h3⟩,h4⟩,h5⟩,h6⟩,h7⟩:=hc
      have h1:=Nat.eq_of_beq_eq_true h1
      have h2:=Nat.eq_of_beq_eq_true h2
      subst h1 h2
      simp only [Option.some.injEq,Prod.mk.injEq] at h
      obtain⟨rfl,rfl⟩:=h
      refine⟨fun J=>?_,.wr,rfl⟩
      obtain⟨dL,eN⟩:=cz (J:=J) hk
      rw [gD eN]
      exact ad.cpy ha dL (gj hm) (Nat.le_of_ble_eq_true h3) (Nat.le_of_ble_eq_true h4) (Nat.le_of_ble_eq_true h5) (fun row hr=>⟨eB h6 row hr,List.all_eq_true.2 (jn h7 row hr)⟩)
     ·cases h
    ·cases h
   ·cases h
  ·cases h
 |_=>cases h
end
section
variable {P:Program}{w0:World}{n:Nat}{o:Oper}{α:AA}{S S':aa}{r:AV}
theorem x5 (w:World) (t t2 ty e:TypeId) (i:TypeInfo) (z:Value) {kk k:IntKind}(ht:P.underlying t=some (.slice e)) (dQ:P.underlying t2=some (.int kk)) (hi:P.info? e=some i) (hz:i.zero=some z) (B:Option Addr) (n:Nat) (hs:0 < i.size)
  (h0:0 < n) (h63:(n:Int)<=9223372036854775807) (h48:n*i.bytes<=281474976710656) :
  (Builtin.append_ #[t,t2] ty #[.slice B 0 0,.int k n]).run P w =
   .ok (.slice (some ⟨w.heap.size,0,none⟩) n (grownCap w n 0 e)) (w.drew.alloc (.cells (Builtin.zeroCells z.cells n++Builtin.zeroCells z.cells (grownCap w n 0 e - n)) e)):=by
 have hn:n ≠ 0:=by omega
 have S0:i.size ≠ 0:=by omega
 have aaQ:¬ (9223372036854775807 < (n:Int)):=by omega
 have aaR:¬ (281474976710656 < Builtin.nextslicecap n 0*i.bytes):=by rw [nextslicecap_zero h0];omega
 have hw:IntKind.i64.wrap (n:Int)=n:=by rw [IntKind.wrap_i64];omega
 have aaS:¬ (n:Int) < 0:=by omega
 have aaT:¬ (281474976710656 < (n:Int)*i.bytes):=by
  intro h
  have:(281474976710656:Int) < ((n*i.bytes:Nat):Int):=by rw [Int.natCast_mul];exact h
  omega
 have I8:∀ w:World,(Builtin.firstCells i.size 0 (.slice B 0 0)).run P w=.ok #[] w:=fun w=>by
  cases B with
  |none=>simp [Builtin.firstCells]
  |some b=>simpa using run_firstCells_some (P:=P) (w:=w) i.size 0 b 0 0 [] (by simp) (fun j v h=>by simp at h)
 simp [Builtin.append_,run_underlying ht,run_underlying dQ,sizeOf,typeInfo,zeroValue,hi,hz,asInt,asIntOf,hw,aaS,aaT,hn,S0,aaQ,aaR,Question.forced,I8,newRow,grownCap]
 intro h
 rcases Nat.mul_eq_zero.1 h with h|h
 ·omega
 ·omega
theorem LZ {z:List AV}{by_:Nat}{a b:QO}{o:Op}(h:res P.toTables o=some (.yw z by_ a b)):∃ c t t2 u v e kk zv sz,o=.call c/\c.callee=.builtin .append/\c.argTypes=#[t,t2]/\c.args=#[u,v]/\a=qo u/\b=qo v/\P.underlying t=some (.slice e)/\P.underlying t2=some (.int kk)/\b8 P e=some zv /\
  bZ P e=some sz/\fe P e=some by_/\zv.cells.size=sz/\0 < by_/\z=zv.cells.toList.map a8:=by
 have two:∀ {β:Type}{x y:β}{l:Array β},l.toList=[x,y]->l=#[x,y]:=fun {β x y l} h=>by rw [<-Array.toArray_toList (xs:=l),h]
 cases o<;>simp only [res,a7,cL,jr,eK,ic] at h<;>(repeat' split at h)<;>(try cases h)
 rename_i hb
 simp only [Bool.and_eq_true] at hb
 exact⟨_,_,_,_,_,_,_,_,_,rfl,by assumption,two (by assumption),two (by assumption),rfl,rfl,kg (by assumption),by assumption,by assumption,by assumption,by assumption,Nat.eq_of_beq_eq_true hb.1,c_ hb.2,rfl⟩
theorem ad.U7 {z:List AV}{by_:Nat}{a b:QO}{k:IntKind}{m:Int}(h1:a.ev α.tm=.sl true []) (h2:b.ev α.tm=.v (.int k m)) (h0:0 < m) (h4:m*by_<=35184372088832) (hz:0 < z.length) :
  ad P w0 false (.yw z by_ a b) α S (.ob S.nx z.length 0 m.toNat none) (S.new (.arr z.length (List.replicate m.toNat z) 0 false)):=ad.run fun n o hr=>by
 obtain⟨c,t,t2,u,v,e,kk,zv,sz,ho,hc,eO,aT,rfl,rfl,ht,dQ,JT,hs,ja,jN,mK,rfl⟩:=LZ hr
 have ZG:(zv.cells.toList.map a8).length=sz:=by simp [jN]
 rw [ZG] at hz ⊢
 rw [aD] at h1 h2
 intro A g q w hS hA
 have g1:=hA.ev u
 have g2:=hA.ev v
 rw [h1] at g1
 rw [h2] at g2
 obtain⟨B,cc,e1,_,kM⟩:=mz g1
 have vG:cc=0:=by simpa using kM rfl
 subst vG
 have e2:=bg g2
 obtain⟨i,hi,aZ⟩:=gz hs
 have nV:i.zero=some zv:=by unfold b8 at JT;rw [hi] at JT;simpa using JT
 have vE:i.bytes=by_:=by unfold fe at ja;rw [hi] at ja;simpa using ja
 obtain⟨m',rfl⟩:∃ m':Nat,m=m':=⟨m.toNat,by omega⟩
 have S3:0 < m':=by omega
 have h4':m'*by_<=35184372088832:=by
  have:((m'*by_:Nat):Int)<=35184372088832:=by rw [Int.natCast_mul];exact h4
  omega
 have hmul:m'<=35184372088832:=Nat.le_trans (Nat.le_mul_of_pos_right _ mK) h4'
 have bw:=x5 (P:=P) w t t2 o.type e i zv (k:=k) ht dQ hi nV B m' (by omega) S3 (by omega) (by rw [vE];omega)
 have tY:=grownCap_ge w m' 0 e
 obtain⟨Ov,JV⟩:=hS.drew
 have oW:∀ q,¬ g.fz w.heap.size q:=fun q hf=>absurd (hS.bM _ _ hf) (Nat.lt_irrefl _)
 obtain⟨hE,b_⟩:=JV.new (.cells (Builtin.zeroCells zv.cells m'++Builtin.zeroCells zv.cells (grownCap w m' 0 e - m')) e) (.arr sz (List.replicate m' (zv.cells.toList.map a8)) 0 false) (grownCap w m' 0 e) (fun J=>by simp) (fun hL=>by
  refine⟨_,e,ct,?_,by simpa using tY,fun h=>by simp at h,fun p row hr=>?_,Nat.zero_le _,fun q=>⟨fun h=>absurd h (oW q),fun h=>by simp at h⟩⟩
  ·simp only [Array.size_append,size_zeroCells,jN]
   rw [<-Nat.add_mul]
   congr 1
   omega
  ·obtain⟨eL,rfl⟩:=List.getElem?_eq_some_iff.1 hr
   simp only [List.length_replicate] at eL
   simp only [List.getElem_replicate]
   refine⟨ZG,fun j b' hj=>?_⟩
   simp only [List.getElem?_map,Option.map_eq_some_iff] at hj
   obtain⟨y,hy,rfl⟩:=hj
   have sF:j < sz:=by
    have:=(List.getElem?_eq_some_iff.1 hy).1
    simp at this
    omega
   refine⟨y,?_,iZ y⟩
   have aB:p*sz+j < m'*sz:=iT eL sF
   have dK:j < zv.cells.size:=by omega
   have e3:(p*sz+j) % zv.cells.size=j:=by
    rw [jN,Nat.mul_comm,Nat.mul_add_mod]
    exact Nat.mod_eq_of_lt sF
   rw [Array.getElem?_append_left (by rw [size_zeroCells,jN];exact aB)]
   unfold Builtin.zeroCells
   rw [Array.getElem?_map,Array.getElem?_range,if_pos (by rw [jN];exact aB)]
   simp only [Option.map_some,e3]
   rw [getElem!_pos zv.cells j dK,<-hy,Array.getElem?_toList,Array.getElem?_eq_getElem dK])
 have hx:(execOp q.eval o).run P w=.ok (.value (.slice (some ⟨w.heap.size,0,none⟩) m' (grownCap w m' 0 e))) (w.drew.alloc (.cells (Builtin.zeroCells zv.cells m'++Builtin.zeroCells zv.cells (grownCap w m' 0 e - m')) e)):=by
  have hx:(execOp q.eval o).run P w=((Builtin.append_ #[t,t2] o.type #[q.eval u,q.eval v]).run P w).andThen fun v w'=>.ok (.value v) w':=by
   simp [execOp,ho,resolve,hc,eO,aT,invoke,builtin]
  rw [hx,e1,e2]
  simp only [List.length_nil]
  rw [bw]
  rfl
 refine⟨_,_,_,.inl hx,?_,b_,Ov.trans hE⟩
 have:=aA.ob (g:=g.new S.nx w.drew.heap.size (grownCap w m' 0 e)) (w:=w.drew.alloc (.cells (Builtin.zeroCells zv.cells m'++Builtin.zeroCells zv.cells (grownCap w m' 0 e - m')) e))
  (k:=S.nx) (sz:=sz) (off:=0) (len:=m') (c:=grownCap w m' 0 e) (cx:=none) (.inr rfl) (fun m h=>by cases h) (by rw [Nat.zero_add];exact Nat.le_of_eq (ah _ _ _).symm) (fun _=>by rw [Nat.zero_add];exact (ah _ _ _).symm) tY
 rw [show (g.new S.nx w.drew.heap.size (grownCap w m' 0 e)).ob S.nx=w.heap.size from ah _ _ _,Nat.zero_mul] at this
 exact this
theorem Rg {a:QO}{o:Op}(h:res P.toTables o=some (.cap a)):∃ c t u e,o=.call c/\c.callee=.builtin .cap/\c.argTypes=#[t]/\c.args=#[u]/\a=qo u/\P.underlying t=some (.slice e):=by
 cases o<;>simp only [res,a7] at h<;>(repeat' split at h)<;>(try cases h)
 exact⟨_,_,_,_,rfl,by assumption,toList_one (by assumption),toList_one (by assumption),rfl,by assumption⟩
def L0:AV->Option Nat
 |.sl true rows=>some rows.length
 |.ob _ _ _ _ (some c)=>some c
 |_=>none
theorem ad.cap {x:QO}{m:Nat}(hx:L0 (x.ev α.tm)=some m):ad P w0 false (.cap x) α S (.v (.int .i64 m)) S:=ad.run fun n o hr=>by
 obtain⟨c,t,u,e,ho,hc,eO,aT,rfl,hu⟩:=Rg hr
 rw [aD] at hx
 refine aI.quiet fun A g q w hS hA=>?_
 have h1:=hA.ev u
 have key:∃ B l,q.eval u=.slice B l m:=by
  unfold L0 at hx
  split at hx
  ·rename_i rows e1
   rw [e1] at h1
   obtain rfl:=Option.some.inj hx
   obtain⟨B,cc,e2,_,kM⟩:=mz h1
   rw [kM rfl] at e2
   exact⟨_,_,e2⟩
  ·rename_i k sz off len c' e1
   rw [e1] at h1
   obtain rfl:=Option.some.inj hx
   obtain⟨cc,e2,_,kM,_⟩:=fj h1
   rw [kM _ rfl] at e2
   exact⟨_,_,e2⟩
  ·cases hx
 obtain⟨B,l,e2⟩:=key
 refine⟨_,?_,.v⟩
 simp [execOp,ho,resolve,hc,eO,aT,invoke,builtin,e2,Builtin.cap_,run_underlying hu,goInt]
theorem FH {a:QO}{o:Op}(h:res P.toTables o=some (.nk a)):∃ c t u kt et,o=.call c/\c.callee=.builtin .clear/\c.argTypes=#[t]/\c.args=#[u]/\a=qo u/\P.underlying t=some (.map kt et):=by
 cases o<;>simp only [res,a7] at h<;>(repeat' split at h)<;>(try cases h)
 exact⟨_,_,_,_,_,rfl,by assumption,toList_one (by assumption),toList_one (by assumption),rfl,by assumption⟩
theorem ad.nk {x:QO}{k:Nat}{es:List (Value × AV)}(hx:x.ev α.tm=.mp k) (hk:S.get k=some (.mp es)):ad P w0 false (.nk x) α S (.aC []) (S.set k (some (.mp []))):=ad.run fun n o hr=>by
 obtain⟨c,t,u,kt,et,ho,hc,eO,aT,rfl,hu⟩:=FH hr
 rw [aD] at hx
 intro A g q w hS hA
 have h1:=hA.ev u
 rw [hx] at h1
 obtain⟨e1,aH⟩:=kX h1
 obtain⟨_,_,entries,clock,p1,p2,p3⟩:=hS.bj k _ hk aH
 obtain⟨w',q1,q2,q3⟩:=hS.qq (P:=P) hk aH p1 (entries':=#[]) (clock':=clock) (es':=[]) rfl (fun i key a h=>by simp at h)
 refine⟨.tuple #[],w',g,.inl ?_,.aC rfl (fun i a x h=>by simp at h),q2,q3⟩
 simp [execOp,ho,resolve,hc,eO,aT,invoke,builtin,e1,Builtin.clear_,run_underlying hu,dg p1,q1]
end
def Cn (q:cB) (f:Nat->AV) (s:XS):Option (AV × XS):=match q with
 |.yw z by_ a b=>match a.ev f,b.ev f with
  |.sl true [],.v (.int _ m)=>match decide (0 < m/\m*by_<=35184372088832) && Nat.blt 0 z.length && !cY s.yk s.nx with
   |true=>some (.ob s.nx z.length 0 m.toNat none,jA s (.arr z.length (List.replicate m.toNat z) 0 false))
   |false=>none
  |_,_=>none
 |.cap x=>match L0 (x.ev f) with
  |some m=>some (.v (.int .i64 m),s)
  |none=>none
 |.nk x=>match x.ev f with
  |.mp k=>match (dy s).get k with
   |some (.mp es)=>some (.aC [],jb s k (some (.mp [])))
   |_=>none
  |_=>none
 |q=>Cm q f s
section
variable {P:Program}{w0:World}{s s':XS}{r:AV}
theorem FI {q:cB}{f:Nat->AV}{df:List DE}(h:Cn q f s=some (r,s')):(∀ J,ad P w0 false q ⟨f,df⟩ (den J s) r (den J s'))/\cZ s s'/\s'.lg=s.lg:=by
 cases q with
 |yw z by_ a b =>
  simp only [Cn] at h
  split at h
  ·rename_i k m ha hb
   split at h
   ·rename_i hc
    simp only [Bool.and_eq_true,Bool.not_eq_true'] at hc
    obtain⟨⟨h1,h2⟩,h3⟩:=hc
    have h1:=of_decide_eq_true h1
    simp only [Option.some.injEq,Prod.mk.injEq] at h
    obtain⟨rfl,rfl⟩:=h
    refine⟨fun J=>?_,.nw,rfl⟩
    rw [gE h3]
    exact ad.U7 ha hb h1.1 h1.2 (c_ h2)
   ·cases h
  ·cases h
 |cap x =>
  simp only [Cn] at h
  split at h
  ·rename_i m hm
   simp only [Option.some.injEq,Prod.mk.injEq] at h
   obtain⟨rfl,rfl⟩:=h
   exact⟨fun J=>ad.cap hm,.refl _,rfl⟩
  ·cases h
 |nk x =>
  simp only [Cn] at h
  split at h
  ·rename_i k hx
   split at h
   ·rename_i es hk
    simp only [Option.some.injEq,Prod.mk.injEq] at h
    obtain⟨rfl,rfl⟩:=h
    refine⟨fun J=>?_,.wr,rfl⟩
    obtain⟨dL,eN⟩:=cz (J:=J) hk
    rw [gD eN]
    exact ad.nk hx dL
   ·cases h
  ·cases h
 |_=>exact JU h
end
abbrev kN:=Nat × List Nat
def FK:List Nat->Nat->Bool
 |[],_=>false
 |a::l,k=>match Nat.beq a k with|true=>true|false=>FK l k
def Ey (l:kN) (k:Nat):Bool:=match Nat.blt k l.1 with|true=>true|false=>FK l.2 k
section
variable {P:Program}{w0:World}{n B:Nat}{α ag:AA}{S S':aa}{r:AV}{ops:Array Oper}{D:Nat->Dt × Option kN}
def Co (P:Program) (w0:World) (n:Nat) (ops:Array Oper) (B:Nat) (i:Nat) (d:Dt × Option kN) (α:AA) (S:aa) (α1:AA) (S1:aa):Prop:=match d.2 with
 |none=>kZ P w0 n ops B i d.1 α S α1 S1
 |some l=>∃ o,ops[i]?=some o/\(match o.dst with|some d=>Nat.blt d n|none=>true)=true/\nH ops i=false/\B<=S.nx/\S.nx<=S1.nx/\(∀ k,Ey l k=true->S1.get k=S.get k) /\
   (o.guard=none\/∃ j want,o.guard=some (j,want)/\lO ops α j=some (some want))/\∃ r,α1=α.put o.dst r/\de P w0 n o (α.only (bU o)) S r S1
def Af (x:List Nat × List Nat × Bool) (l:kN):Bool:=match x with
 |(F,[],false)=>F.all (Ey l ·)
 |_=>false
def vH (d:Dt × Option kN):List Nat × List Nat × Bool:=match d.2 with
 |none=>d.1.ns
 |some l=>(l.1::l.2,[],true)
def Ag (x:List Nat × List Nat × Bool):Option kN:=match x with
 |(a::u,[],true)=>some (a,u)
 |_=>none
def y4 (d e:Dt × Option kN):Prop:=match d.2,e.2 with
 |none,none=>dj d.1.ns e.1.ns=true
 |some l,none=>Af e.1.ns l=true
 |none,some l=>Af d.1.ns l=true
 |some _,some _=>False
theorem y5 {d:Dt}{l:kN}{T T':aa}(h:Af d.ns l=true) (ht:∀ k,Ey l k=true->T'.get k=T.get k) (ha:fu T d.F):fu T' d.F/\d.W=[]/\d.m=false:=by
 obtain⟨F,W,m⟩:=d
 unfold Af Dt.ns at h
 cases W with
 |cons=>cases h
 |nil =>
  cases m with
  |true=>cases h
  |false =>
   refine⟨fun p hp=>?_,rfl,rfl⟩
   have:=List.all_eq_true.1 h p.1 (List.mem_map.2 ⟨p,hp,rfl⟩)
   rw [ht _ this]
   exact ha p hp
theorem Ah {oi oj:Oper}(h:∀ d,oi.dst=some d->d ∉ oj.looksAt ops):(∀ e,oi.dst=some e->e ∉ bU oj)/\∀ q want,oj.guard=some (q,want)->∀ e,oi.dst=some e->(ops[q]?).bind (·.dst) ≠ some e:=by
 refine⟨fun e he hm=>h e he (nn hm),fun q want hg e he h3=>h e he (List.mem_append.2 (.inr ?_))⟩
 rw [hg]
 simp only
 rw [h3]
 simp
theorem y6 {o:Oper}{d:Option Tmp}{a:AV}(h2:∀ q want,o.guard=some (q,want)->∀ e,d=some e->(ops[q]?).bind (·.dst) ≠ some e) :
  (o.guard=none\/∃ j want,o.guard=some (j,want)/\lO ops (α.put d a) j=some (some want)) ↔ (o.guard=none\/∃ j want,o.guard=some (j,want)/\lO ops α j=some (some want)):=by
 constructor
 ·rintro (hg|⟨q,want,hg,hy⟩)
  ·exact .inl hg
  ·exact .inr ⟨q,want,hg,by rw [<-jU (h2 q want hg)];exact hy⟩
 ·rintro (hg|⟨q,want,hg,hy⟩)
  ·exact .inl hg
  ·exact .inr ⟨q,want,hg,by rw [jU (h2 q want hg)];exact hy⟩
theorem Co.swap {i j:Nat}{di jW:Dt × Option kN}{oi oj:Oper}{α1 kF:AA}{S1 S2:aa}(hi:ops[i]?=some oi) (hj:ops[j]?=some oj) (nX:oi.apart ops oj=true)
  (hd:y4 di jW) (h:Co P w0 n ops B i di α S α1 S1) (k:Co P w0 n ops B j jW α1 S1 kF S2) :
  ∃ oH sU,Co P w0 n ops B j jW α S oH sU/\Co P w0 n ops B i di oH sU kF S2:=by
 obtain⟨di,xi⟩:=di
 obtain⟨jW,xj⟩:=jW
 obtain⟨e1,e2,e3⟩:=Oper.apart_spec nX
 obtain⟨l1,l2⟩:=Ah e1
 obtain⟨m1,m2⟩:=Ah e3
 have aP:∀ t,oj.dst=some t->oi.dst ≠ some t:=fun t ht h'=>e2 t h' ht
 cases xi with
 |none =>
  cases xj with
  |none=>exact kZ.swap hi hj nX hd h k
  |some l =>
   have hd:Af di.ns l=true:=hd
   have h:kZ P w0 n ops B i di α S α1 S1:=h
   obtain⟨kG,a,eL,tZ,qu,er,hB⟩:=h.shape
   obtain rfl:kG=oi:=by rw [hi] at eL;exact (Option.some.inj eL).symm
   obtain⟨_,hW,hM⟩:=y5 hd (T:=S) (T':=S) (fun _ _=>rfl) qu
   have er:S1=S:=by rw [er,hW,hM];exact cE
   subst er
   obtain⟨o,ho,hn,JW,Ow,kL,hold,hg,r,L4,aQ⟩:=k
   obtain rfl:o=oj:=by rw [hj] at ho;exact (Option.some.inj ho).symm
   subst tZ
   rw [jV l1] at aQ
   rw [y6 l2] at hg
   refine⟨α.put o.dst r,S2,⟨o,hj,hn,JW,Ow,kL,hold,hg,r,rfl,aQ⟩,?_⟩
   obtain⟨yz,_,_⟩:=y5 hd (T:=S1) (T':=S2) hold qu
   have h1:=(h.anyS (T:=S2) (Nat.le_trans Ow kL) yz (fun e=>by rw [hM] at e;cases e)).frame (d:=o.dst) (a:=r) fun o2 l9 e he=>by
    obtain rfl:o2=kG:=by rw [hi] at l9;exact (Option.some.inj l9).symm
    exact⟨e3 e he,fun h3=>e2 e h3 he⟩
   rw [show cJ S2 di.W di.m=S2 by rw [hW,hM];exact cE] at h1
   rw [L4]
   exact h1
 |some l =>
  cases xj with
  |some l'=>exact hd.elim
  |none =>
   have hd:Af jW.ns l=true:=hd
   obtain⟨o,ho,hn,JW,hB,kL,hold,hg,a,tZ,aQ⟩:=h
   obtain rfl:o=oi:=by rw [hi] at ho;exact (Option.some.inj ho).symm
   subst tZ
   have k:kZ P w0 n ops B j jW (α.put o.dst a) S1 kF S2:=k
   obtain⟨mG,b,eJ,L4,qu,pe,_⟩:=k.shape
   obtain rfl:mG=oj:=by rw [hj] at eJ;exact (Option.some.inj eJ).symm
   obtain⟨yz,hW,hM⟩:=y5 hd (T:=S1) (T':=S) (fun k hk=>(hold k hk).symm) qu
   have pe:S2=S1:=by rw [pe,hW,hM];exact cE
   subst pe L4
   have kj:kZ P w0 n ops B j jW α S (α.put mG.dst b) S:=by
    obtain⟨o2,l9,vI,t_,q0,q1,q2,hk⟩:=k.anyS (T:=S) hB yz (fun e=>by rw [hM] at e;cases e)
    obtain rfl:o2=mG:=by rw [hj] at l9;exact (Option.some.inj l9).symm
    have inj:∀ x y:AV,(α.put o.dst a).put o2.dst x=(α.put o.dst a).put o2.dst y->α.put o2.dst x=α.put o2.dst y:=by
     intro x y ib
     cases fC:o2.dst with
     |none=>rfl
     |some d =>
      rw [fC] at ib
      have:x=y:=by
       have h3:=congrArg (fun z:AA=>z.tm d) ib
       simpa [AA.put,ah] using h3
      rw [this]
    refine⟨o2,hj,vI,t_,hB,yz,by rw [hW,hM];exact cE.symm,?_⟩
    rcases hk with ⟨q,want,c,hg,hy,aP,h3,h4⟩|⟨hg,r,h3,h4⟩
    ·exact .inl ⟨q,want,c,hg,by rw [<-jU (l2 q want hg)];exact hy,aP,inj _ _ h3,h4⟩
    ·rw [jV l1] at h4
     exact .inr ⟨(y6 l2).1 hg,r,inj _ _ h3,h4⟩
   refine⟨α.put mG.dst b,S,kj,⟨o,hi,hn,JW,hB,kL,hold,(y6 m2).2 hg,a,?_,by rw [jV m1];exact aQ⟩⟩
   exact put_comm fun t ht e=>aP t e ht
inductive gk (P:Program) (w0:World) (n:Nat) (ops:Array Oper) (B:Nat) (D:Nat->Dt × Option kN):List Nat->AA->aa->AA->aa->Prop where
 |nil (α:AA) (S:aa):gk P w0 n ops B D [] α S α S
 |cons {i:Nat}{rest:List Nat}{α α1 ag:AA}{S S1 S':aa}(h:Co P w0 n ops B i (D i) α S α1 S1) (t:gk P w0 n ops B D rest α1 S1 ag S'):gk P w0 n ops B D (i::rest) α S ag S'
def S4 (ops:Array Oper) (D:Nat->Dt × Option kN) (i j:Nat):Prop:=∃ oi oj,ops[i]?=some oi/\ops[j]?=some oj/\oi.apart ops oj=true/\y4 (D i) (D j)
theorem gk.front {j:Nat}:∀ {C1 C2:List Nat}{α ag:AA}{S S':aa},(∀ x ∈ C1,S4 ops D x j)->gk P w0 n ops B D (C1++j::C2) α S ag S'->gk P w0 n ops B D (j::(C1++C2)) α S ag S'
 |[],C2,α,ag,S,S',_,h=>h
 |x::C1,C2,α,ag,S,S',hx,h=>by
  cases h with
  |@cons _ _ _ α1 _ _ S1 _ h t =>
   have t':=gk.front (fun y hy=>hx y (by simp [hy])) t
   cases t' with
   |@cons _ _ _ kF _ _ S2 _ k t2 =>
    obtain⟨oi,oj,hi,hj,h1,h2⟩:=hx x (by simp)
    obtain⟨oH,sU,h3,h4⟩:=h.swap hi hj h1 h2 k
    exact .cons h3 (.cons h4 t2)
theorem gk.perm:∀ {L C:List Nat}{α ag:AA}{S S':aa},C.Pairwise (· < ·)->L.Pairwise (fun y x=>x < y->S4 ops D x y)->(∀ x,x ∈ L ↔ x ∈ C)->L.Nodup->gk P w0 n ops B D C α S ag S'->gk P w0 n ops B D L α S ag S'
 |[],C,α,ag,S,S',_,_,hm,_,h=>by
  have:C=[]:=by
   cases C with
   |nil=>rfl
   |cons x C=>have:=(hm x).2 (by simp);cases this
  subst this
  exact h
 |y::L,C,α,ag,S,S',hC,hL,hm,hn,h=>by
  obtain⟨C1,C2,rfl⟩:=List.append_of_mem ((hm y).1 (by simp))
  rw [List.pairwise_cons] at hL
  rw [List.nodup_cons] at hn
  rw [List.pairwise_append,List.pairwise_cons] at hC
  obtain⟨p1,⟨p2,p3⟩,p4⟩:=hC
  have mH:∀ x ∈ C1,x < y:=fun x hx=>p4 x hx y (by simp)
  have iN:∀ x ∈ C2,y < x:=p2
  have fI:∀ x,x ∈ L ↔ x ∈ C1++C2:=by
   intro x
   have h0:=hm x
   simp only [List.mem_cons,List.mem_append] at h0 ⊢
   constructor
   ·intro hx
    rcases h0.1 (.inr hx) with h1|h1|h1
    ·exact .inl h1
    ·subst h1;exact absurd hx hn.1
    ·exact .inr h1
   ·intro hx
    have aP:x ≠ y:=by
     rintro rfl
     rcases hx with hx|hx
     ·exact absurd (mH x hx) (Nat.lt_irrefl _)
     ·exact absurd (iN x hx) (Nat.lt_irrefl _)
    rcases h0.2 (hx.elim .inl fun h=>.inr (.inr h)) with h1|h1
    ·exact absurd h1 aP
    ·exact h1
  have hf:=gk.front (fun x hx=>hL.1 x ((fI x).2 (by simp [hx])) (mH x hx)) h
  cases hf with
  |cons h1 h2 =>
   refine .cons h1 (gk.perm (L:=L) ?_ hL.2 fI hn.2 h2)
   rw [List.pairwise_append]
   exact⟨p1,p3,fun a ha b hb=>p4 a ha b (by simp [hb])⟩
theorem gk.sI:∀ {L:List Nat}{α ag:AA}{S S':aa},gk P w0 n ops B D L α S ag S'->nG P w0 n ops L α S ag S'
 |[],_,_,_,_,.nil α S=>fun F m A g a w Q hF hS hA hQ=>hQ a w g hS hA (Ext.refl ..)
 |i::rest,α,ag,S,S',.cons (α1:=α1) (S1:=S1) h t=>by
  have ih:=gk.sI t
  obtain⟨d,hd⟩:∃ d,D i=d:=⟨_,rfl⟩
  rw [hd] at h
  obtain⟨d,x⟩:=d
  have run:∀ {o:Oper}{r:AV},ops[i]?=some o->(match o.dst with|some d=>Nat.blt d n|none=>true)=true->(o.guard=none\/∃ j want,o.guard=some (j,want)/\lO ops α j=some (some want))->α1=α.put o.dst r->de P w0 n o (α.only (bU o)) S r S1->nG P w0 n ops (i::rest) α S ag S':=by
   intro o r hi y7 hg tZ h4
   subst tZ
   intro F m A g a w Q hF hS hA hQ
   have hw:Region.wanted o (yielded ops a.tmps)=true:=by
    rcases hg with hg|⟨j,want,hg,hy⟩
    ·simp [Region.wanted,hg]
    ·simp [Region.wanted,hg,kW hA hy]
   simp only [wpOpsIn,hi]
   rw [if_pos hw]
   refine⟨fun f _=>hF.1 f,h4 F m A g a w _ Q hF hS (hA.only _) fun v w' g' hr dO hE=>?_⟩
   exact ih F m A g' _ w' Q hF dO (gV (hA.later hE.toLater) y7 hr) fun a' iY qv h1 h2 h3=>hQ a' iY qv h1 h2 (hE.trans h3)
  cases x with
  |some l =>
   obtain⟨o,hi,y7,_,_,_,_,hg,r,tZ,aQ⟩:=h
   exact run hi y7 hg tZ aQ
  |none =>
   obtain⟨o,hi,y7,hp,hB,qu,er,h⟩:=h
   rcases h with ⟨j,want,b,hg,hy,aP,rfl,RJ⟩|⟨hg,r,tZ,h3⟩
   ·have e:S1=S:=by rw [er,RJ];exact cE
    subst e
    intro F m A g a w Q hF hS hA hQ
    have vk:¬ Region.wanted o (yielded ops a.tmps)=true:=by simp [Region.wanted,hg,kW hA hy,aP]
    simp only [wpOpsIn,hi]
    rw [if_neg vk]
    exact⟨fun f _=>hF.1 f,ih F m A g _ w Q hF hS (gV hA y7 .v) hQ⟩
   ·have h4:=h3 S hB qu (fun _=>rfl)
    rw [<-er] at h4
    exact run hi y7 hg tZ h4
theorem gk.xc:∀ {L:List Nat}{α ag:AA}{S S':aa},gk P w0 n ops B D L α S ag S'->∀ i ∈ L,nH ops i=true->(D i).2=none/\(D i).1=.none_
 |_,_,_,_,_,.nil ..,i,hi,_=>by cases hi
 |_,_,_,_,_,.cons (i:=j) h t,i,hi,hp=>by
  rcases List.mem_cons.1 hi with rfl|hi
  ·obtain⟨d,hd⟩:∃ d,D i=d:=⟨_,rfl⟩
   rw [hd] at h ⊢
   obtain⟨d,x⟩:=d
   cases x with
   |none =>
    obtain⟨o,h1,_,h2,_⟩:=h
    simp only [nH,h1] at hp
    exact⟨rfl,h2 hp⟩
   |some l =>
    obtain⟨o,h1,_,h2,_⟩:=h
    rw [h2] at hp
    cases hp
  ·exact gk.xc t i hi hp
theorem bI.U8 {rd:Bool}{id:Nat}(hm:P.follows .mixedOrders=true) (mD:mR ops=true) (hv:∀ p ∈ rm ops,y4 (D p.1) (D p.2)) (h:gk P w0 n ops B D (List.range ops.size) α S ag S'):bI P w0 rd n (.region id ops true) α S .normal ag S':=by
 intro F m A g a w hF hR hS hA
 simp only [mR,Bool.and_eq_true] at mD
 obtain⟨he,hp⟩:=mD
 refine wpIn_region_draw fun t=>?_
 simp only [Region.schedule,hm,Bool.true_or,if_true]
 have hd:q9 ops (Array.replicate ops.size false):=⟨by simp,fun y x hy=>by
  simp only [Array.getD_eq_getD_getElem?,Array.getElem?_replicate] at hy
  split at hy<;>simp at hy⟩
 obtain⟨f1,f2,f3,f4⟩:=lY he ops.size t _ hd
 have jQ:∀ x,x ∈ Region.linearise .any ops t ↔ x ∈ List.range ops.size:=by
  intro x
  refine⟨fun hx=>by simpa using (f1 x hx).1,fun hx=>?_⟩
  have hx:x < ops.size:=by simpa using hx
  by_cases c:x ∈ Region.linearise .any ops t
  ·exact c
  ·exfalso
   have hl:=f4 ⟨x,hx,by simp [Array.getD_eq_getD_getElem?,Array.getElem?_replicate,hx],c⟩
   have mO:(x::Region.linearise.go .any ops ops.size t (Array.replicate ops.size false) []).Nodup:=by
    rw [List.nodup_cons];exact⟨c,f2⟩
   have hlen:=sH (x::Region.linearise.go .any ops ops.size t (Array.replicate ops.size false) []) mO ops.size (fun y hy=>by
    rcases List.mem_cons.1 hy with rfl|hy
    ·exact hx
    ·exact (f1 y hy).1)
   rw [List.length_cons,hl] at hlen
   omega
 have hL:(Region.linearise .any ops t).Pairwise (fun y x=>x < y->S4 ops D x y):=by
  refine List.Pairwise.imp_of_mem ?_ f3
  intro y x hy hx hb ib
  have fI:=sV (ops:=ops) (f1 y hy).1 ib hb
  have nX:=List.all_eq_true.1 hp _ fI
  unfold RK at nX
  split at nX
  ·rename_i oi oj hi hj
   refine⟨oi,oj,hi,hj,nX,?_⟩
   have DG:x ∈ List.range ops.size:=(jQ x).1 hx
   have Nq:y ∈ List.range ops.size:=(jQ y).1 hy
   have S5:∀ {d e:Dt × Option kN},d.2=none->d.1=.none_->y4 d e:=fun {d e} h1 h2=>by
    obtain⟨d,x⟩:=d
    obtain⟨e,y⟩:=e
    simp only at h1 h2
    subst h1 h2
    cases y with
    |none=>exact zp
    |some l=>rfl
   have S6:∀ {d e:Dt × Option kN},e.2=none->e.1=.none_->y4 d e:=fun {d e} h1 h2=>by
    obtain⟨d,x⟩:=d
    obtain⟨e,y⟩:=e
    simp only at h1 h2
    subst h1 h2
    cases x with
    |none=>exact zq
    |some l=>rfl
   cases DH:nH ops x with
   |true=>exact S5 (h.xc x DG DH).1 (h.xc x DG DH).2
   |false =>
    cases DI:nH ops y with
    |true=>exact S6 (h.xc y Nq DI).1 (h.xc y Nq DI).2
    |false=>exact hv (x,y) (List.mem_filter.2 ⟨fI,by simp [DH,DI]⟩)
  ·cases nX
 have hC:(List.range ops.size).Pairwise (· < ·):=List.pairwise_lt_range
 obtain⟨hE,er⟩:=hS.drew
 have er:St w0 A g S { w with drawn:=w.drawn+1 }:=er
 refine (gk.perm hC hL jQ f2 h).sI F m A g a _ _ hF er (hA.later hE.toLater) fun a' w' g' h1 h2 h3=>⟨rfl,g',h1,h2,hE.trans h3⟩
end
end Go.Proofs.YtgjfgekaclobaaaGreat
