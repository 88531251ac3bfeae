import Derived.Test.YtbofilglphfceaaGreatD31
namespace Go.Proofs.YtbofilglphfceaaGreat
set_option linter.unusedVariables false
set_option linter.unusedSimpArgs false
open Go.RowKit
section
variable {P:Program}{w0:World}{n:Nat}{o:Oper}{α:AA}{S S':U}{r:AV}
theorem aa.QB {m k sz off len:Nat}{x:QO}{lo hi:Option QO}{l h:Int}{rows:List (List AV)}{fz:Nat}{ex:Bool}(hx:x.ev α.tm=.ob k sz off len none) (hk:S.get k=some (.arr sz rows fz ex)) (hm:m=sz) (hl:e_ α.tm lo 0=some l) (hh:e_ α.tm hi len=some h) (h0:0<=l) (h1:l < h) (h2:off+h<=rows.length) :
  aa P w0 false (.slice (.sl m) x lo hi none) α S (.ob k sz (off+l.toNat) (h.toNat - l.toNat) none) S:=aa.run fun n o hr=>by
 obtain⟨t,u,l1,i1,m1,ho,rfl,rfl,rfl,JI,⟨hs,_⟩|⟨e,m',hs,hu,hz⟩⟩:=xH hr
 ·cases hs
 ·injection hs with hs
  subst hs hm
  have JI:m1=none:=by cases m1 with|none=>rfl|some _=>cases JI
  subst JI
  rw [ay] at hx
  refine aC.quiet fun A g q w hS hA=>?_
  have hx:=hA.ev u
  rw [show α.ev u=_ from ‹α.ev u=_›] at hx
  obtain⟨c,e1,aY,hc,hp,gU,hle⟩:=dx hx
  obtain⟨_,_,cs,ty,p1,p2,p3,_⟩:=hS.bE k _ hk aY
  have D6:=gU rfl
  have hb:=hH (P:=P) (isSl:=true) (len:=len) (cap:=c) (w:=w) hA (px hl) (px hh) h0 (by omega) (by omega)
  have aM:¬ c=l.toNat:=by omega
  have iK:(Instr.slice t (q.eval u) (l1.map q.eval) (i1.map q.eval) (Option.map q.eval none)).run P w=.ok (.slice (some ⟨g.ob k,(off+l.toNat)*m,none⟩) (h.toNat - l.toNat) (c - l.toNat)) w:=by
   simp [Instr.slice,e1,run_underlying hu,hb,bJ hz,aM,dB,Nat.add_mul]
  have LR:(execOp q.eval o).run P w=.ok (.value (.slice (some ⟨g.ob k,(off+l.toNat)*m,none⟩) (h.toNat - l.toNat) (c - l.toNat))) w:=by
   simp only [execOp,ho,Sem.run_bind,rY hu (fun k e h=>by cases h),iK,Result.andThen_ok]
   rfl
  exact⟨_,LR,.ob aY (fun m hm=>by cases hm) (by omega) (fun _=>by omega) (by omega)⟩
theorem y0 {z:List AV}{a:QO}{o:Op}(h:res P.toTables o=some (.mE z a)):∃ c t u e zv,o=.call c/\c.callee=.builtin .clear/\c.argTypes=#[t]/\c.args=#[u]/\a=qo u/\P.underlying t=some (.slice e)/\bY P e=some zv/\z=zv.cells.toList.map aO:=by
 cases o<;>simp only [res,aZ,dX] at h<;>(repeat' split at h)<;>(try cases h)
 exact⟨_,_,_,_,_,rfl,by assumption,toList_one (by assumption),toList_one (by assumption),rfl,by assumption,by assumption,rfl⟩
theorem aa.JJ {z:List AV}{x:QO}{k sz off len fz:Nat}{cx:Option Nat}{rows:List (List AV)}{ex:Bool}(hx:x.ev α.tm=.ob k sz off len cx) (hk:S.get k=some (.arr sz rows fz ex)) (hz:z.length=sz) (gZ:dA bp z=true) (hp:off+len<=rows.length) (hf:fz<=off) (h0:0 < len) :
  aa P w0 false (.mE z x) α S (.aL []) (S.set k (some (.arr sz (rows.take off++List.replicate len z++rows.drop (off+len)) fz ex))):=aa.run fun n o hr=>by
 obtain⟨c,t,u,e,zv,ho,hc,cV,aH,rfl,hu,CS,rfl⟩:=y0 hr
 rw [ay] at hx
 intro A g q w hS hA
 have h1:=hA.ev u
 rw [hx] at h1
 obtain⟨cc,e1,aY,_,_,_,hle⟩:=dx h1
 obtain⟨k2,k3,cs,ty,p1,p2,p3,p4,p5,p6,p7⟩:=hS.bE k _ hk aY
 have fe:zv.cells.size=sz:=by simpa using hz
 obtain⟨news,kV⟩:∃ news,news=(Builtin.zeroCells zv.cells len).toList:=⟨_,rfl⟩
 have GF:news.length=(List.replicate len (zv.cells.toList.map aO)).length*sz:=by rw [kV,Array.length_toList,size_zeroCells,List.length_replicate,fe]
 have fQ:∀ i j,i < len->j < sz->∀ v,zv.cells[j]?=some v->news[i*sz+j]?=some v:=by
  intro i j hi hj v hv
  have au:i*sz+j < len*sz:=fD hi hj
  have e1:(i*sz+j) % zv.cells.size=j:=by
   rw [fe,Nat.mul_comm,Nat.mul_add_mod]
   exact Nat.mod_eq_of_lt hj
  rw [kV,Array.getElem?_toList]
  unfold Builtin.zeroCells
  rw [Array.getElem?_map,Array.getElem?_range,if_pos (by rw [fe];exact au)]
  simp only [Option.map_some,e1]
  rw [getElem!_pos zv.cells j (by omega),<-hv,Array.getElem?_eq_getElem (by omega)]
 obtain⟨hE,cz⟩:=hS.pB (p:=off) (more:=List.replicate len (zv.cells.toList.map aO)) (news:=news) hk aY p1 (fun r hr=>by rw [(List.mem_replicate.1 hr).2];exact hz) GF (fun i row j a hi ha=>by
  obtain⟨dD,rfl⟩:=List.getElem?_eq_some_iff.1 hi
  simp only [List.length_replicate] at dD
  simp only [List.getElem_replicate,List.getElem?_map,Option.map_eq_some_iff] at ha
  obtain⟨y,hy,rfl⟩:=ha
  have hj:j < sz:=by
   have:=(List.getElem?_eq_some_iff.1 hy).1
   simp at this
   omega
  exact⟨y,fQ i j dD hj y (by rw [<-Array.getElem?_toList];exact hy),eZ y⟩) (by rw [List.length_replicate];exact hp) hf
 rw [List.length_replicate] at cz
 have QD:∀ v ∈ news,v.oneCell'=true:=by
  intro v hv
  rw [kV] at hv
  have hv:=Array.mem_toList_iff.1 hv
  unfold Builtin.zeroCells at hv
  obtain⟨i,hi,rfl⟩:=Array.mem_map.1 hv
  have dD:=Array.mem_range.1 hi
  have a7:0 < zv.cells.size:=by
   rcases Nat.eq_zero_or_pos zv.cells.size with e|e
   ·rw [e,Nat.mul_zero] at dD;omega
   ·exact e
  have hj:i % zv.cells.size < zv.cells.size:=Nat.mod_lt _ a7
  rw [getElem!_pos zv.cells _ hj]
  have hm:aO zv.cells[i % zv.cells.size] ∈ zv.cells.toList.map aO:=List.mem_map.2 ⟨_,Array.mem_toList_iff.2 (Array.getElem_mem hj),rfl⟩
  exact kY (g:=g) (w:=w) (cr gZ _ hm) (eZ _)
 have cy:off*sz+0+news.length<=cs.size:=by
  rw [GF,List.length_replicate,p2,Nat.add_zero,<-Nat.add_mul]
  exact Nat.mul_le_mul_right sz (by omega)
 have j9:=run_storeCells_at (P:=P) (g.ob k) (off*sz) ty news 0 cs w p1 cy QD
 rw [Nat.add_zero] at j9
 refine⟨.tuple #[],_,g,.inl ?_,.aL rfl (fun i a x h=>by simp at h),cz,hE⟩
 have bm:(execOp q.eval o).run P w=((Builtin.clear_ #[t] o.type #[q.eval u]).run P w).andThen fun v w'=>.ok (.value v) w':=by
  simp [execOp,ho,resolve,hc,cV,aH,invoke,builtin]
 rw [bm,e1]
 obtain⟨sH,rfl⟩:∃ l,len=l+1:=⟨len - 1,by omega⟩
 rw [kV] at j9
 simp [Builtin.clear_,run_underlying hu,iT CS,j9,kV]
end
def vx (q:cj) (f:Nat->AV) (s:XS):Option (AV × XS):=match q with
 |.eB z by_ l c=>match l.ev f,c.ev f with
  |.v (.int _ i),.v (.int _ j)=>match decide (0<=i/\i < j/\j*by_<=35184372088832/\j<=9223372036854775807) && !cI s.yk s.nx with
   |true=>some (.ob s.nx z.length 0 i.toNat none,gj s (.arr z.length (List.replicate j.toNat z) 0 true))
   |false=>none
  |_,_=>none
 |.slice (.sl m) x lo hi none=>match x.ev f with
  |.ob k sz off len none=>match (cS s).get k,e_ f lo 0,e_ f hi len with
   |some (.arr sz' rows _ _),some l,some h=>match Nat.beq sz' sz && Nat.beq m sz && decide (0<=l/\l < h/\(len:Int) < h/\off+h<=rows.length) with
    |true=>some (.ob k sz (off+l.toNat) (h.toNat - l.toNat) none,s)
    |false=>none
   |_,_,_=>none
  |_=>none
 |.mE z x=>match x.ev f with
  |.ob k sz off len _=>match (cS s).get k with
   |some (.arr sz' rows fz ex)=>match Nat.beq sz' sz && Nat.beq z.length sz && dA bp z && Nat.ble (off+len) rows.length && Nat.ble fz off && Nat.blt 0 len with
    |true=>some (.aL [],h_ s k (some (.arr sz (rows.take off++List.replicate len z++rows.drop (off+len)) fz ex)))
    |false=>none
   |_=>none
  |_=>none
 |.append sz by_ a b=>match a.ev f with
  |.ob k sz' 0 len none=>match (cS s).get k,cu (cS s) (b.ev f) with
   |some (.arr dK rows fz ex),some (x::more)=>match Nat.beq dK sz && Nat.beq sz' sz && Nat.ble (len+(x::more).length) rows.length && Nat.ble fz len && fE sz (x::more) && lL bp (x::more) with
    |true=>some (.ob k sz 0 (len+(x::more).length) none,h_ s k (some (.arr sz (rows.take len++(x::more)++rows.drop (len+(x::more).length)) fz ex)))
    |false=>none
   |_,_=>none
  |_=>none
 |.copy sz a b=>match a.ev f with
  |.ob k sz' off len _=>match cu (cS s) (b.ev f) with
   |some []=>some (.v (.int .i64 0),s)
   |some (x::more)=>match (cS s).get k with
    |some (.arr dK rows fz ex)=>match Nat.beq dK sz && Nat.beq sz' sz && Nat.ble (x::more).length len && Nat.ble (off+len) rows.length && Nat.ble fz off && fE sz (x::more) && lL bp (x::more) with
     |true=>some (.v (.int .i64 (x::more).length),h_ s k (some (.arr sz (rows.take off++(x::more)++rows.drop (off+(x::more).length)) fz ex)))
     |false=>none
    |_=>none
   |none=>none
  |_=>none
 |_=>none
section
variable {P:Program}{w0:World}{s s':XS}{r:AV}
theorem CT {q:cj}{f:Nat->AV}{df:List Nat}(h:vx q f s=some (r,s')):(∀ J,aa P w0 false q ⟨f,df⟩ (den J s) r (den J s'))/\cE s s'/\s'.lg=s.lg:=by
 cases q with
 |eB z by_ l c =>
  simp only [vx] at h
  split at h
  ·rename_i k1 i k2 j hl hc
   split at h
   ·rename_i hd
    simp only [Bool.and_eq_true,Bool.not_eq_true'] at hd
    have dT:=of_decide_eq_true hd.1
    simp only [Option.some.injEq,Prod.mk.injEq] at h
    obtain⟨rfl,rfl⟩:=h
    refine⟨fun J=>?_,.nw,rfl⟩
    rw [eI hd.2]
    exact aa.Jm hl hc dT.1 (by omega) dT.2.2.1 dT.2.2.2
   ·cases h
  ·cases h
 |slice k x lo hi mx =>
  cases k with
  |str=>cases h
  |sl m =>
   cases mx with
   |some mx=>cases h
   |none =>
    simp only [vx] at h
    split at h
    ·rename_i k sz off len hx
     split at h
     ·rename_i sz' rows fz ex l hh hk hl mR
      split at h
      ·rename_i hc
       simp only [Bool.and_eq_true] at hc
       obtain⟨⟨h1,h2⟩,h3⟩:=hc
       have h1:=Nat.eq_of_beq_eq_true h1
       have h2:=Nat.eq_of_beq_eq_true h2
       have h3:=of_decide_eq_true h3
       subst h1
       simp only [Option.some.injEq,Prod.mk.injEq] at h
       obtain⟨rfl,rfl⟩:=h
       exact⟨fun J=>aa.QB hx (cg (J:=J) hk).1 h2 hl mR h3.1 h3.2.1 (by omega),.refl _,rfl⟩
      ·cases h
     ·cases h
    ·cases h
 |mE z x =>
  simp only [vx] at h
  split at h
  ·rename_i k sz off len cx hx
   split at h
   ·rename_i sz' rows fz ex hk
    split at h
    ·rename_i hc
     simp only [Bool.and_eq_true] at hc
     obtain⟨⟨⟨⟨⟨h1,h2⟩,h3⟩,h4⟩,h5⟩,h6⟩:=hc
     have h1:=Nat.eq_of_beq_eq_true h1
     subst h1
     simp only [Option.some.injEq,Prod.mk.injEq] at h
     obtain⟨rfl,rfl⟩:=h
     refine⟨fun J=>?_,.wr,rfl⟩
     obtain⟨iY,gS⟩:=cg (J:=J) hk
     rw [gk gS]
     exact aa.JJ hx iY (Nat.eq_of_beq_eq_true h2) h3 (Nat.le_of_ble_eq_true h4) (Nat.le_of_ble_eq_true h5) (dI h6)
    ·cases h
   ·cases h
  ·cases h
 |append sz by_ a b =>
  simp only [vx] at h
  split at h
  ·rename_i k sz' len ha
   split at h
   ·rename_i dK rows fz ex x more hk hm
    split at h
    ·rename_i hc
     simp only [Bool.and_eq_true] at hc
     obtain⟨⟨⟨⟨⟨h1,h2⟩,h3⟩,h4⟩,h5⟩,h6⟩:=hc
     have h1:=Nat.eq_of_beq_eq_true h1
     have h2:=Nat.eq_of_beq_eq_true h2
     subst h1 h2
     simp only [Option.some.injEq,Prod.mk.injEq] at h
     obtain⟨rfl,rfl⟩:=h
     refine⟨fun J=>?_,.wr,rfl⟩
     obtain⟨iY,gS⟩:=cg (J:=J) hk
     rw [gk gS]
     exact aa.Jn ha iY (ep hm) (Nat.le_of_ble_eq_true h4) (Nat.le_of_ble_eq_true h3) (fun row hr=>⟨dp h5 row hr,List.all_eq_true.2 (fU h6 row hr)⟩)
    ·cases h
   ·cases h
  ·cases h
 |copy sz a b =>
  simp only [vx] at h
  split at h
  ·rename_i k sz' off len cx ha
   split at h
   ·rename_i hm
    simp only [Option.some.injEq,Prod.mk.injEq] at h
    obtain⟨rfl,rfl⟩:=h
    exact⟨fun J=>aa.Ql ha (ep hm),.refl _,rfl⟩
   ·rename_i x more hm
    split at h
    ·rename_i dK rows fz ex hk
     split at h
     ·rename_i hc
      simp only [Bool.and_eq_true] at hc
      obtain⟨⟨⟨⟨⟨⟨h1,h2⟩,h3⟩,h4⟩,h5⟩,h6⟩,h7⟩:=hc
      have h1:=Nat.eq_of_beq_eq_true h1
      have h2:=Nat.eq_of_beq_eq_true h2
      subst h1 h2
      simp only [Option.some.injEq,Prod.mk.injEq] at h
      obtain⟨rfl,rfl⟩:=h
      refine⟨fun J=>?_,.wr,rfl⟩
      obtain⟨iY,gS⟩:=cg (J:=J) hk
      rw [gk gS]
      exact aa.SF ha iY (ep hm) (Nat.le_of_ble_eq_true h3) (Nat.le_of_ble_eq_true h4) (Nat.le_of_ble_eq_true h5) (fun row hr=>⟨dp h6 row hr,List.all_eq_true.2 (fU h7 row hr)⟩)
     ·cases h
    ·cases h
   ·cases h
  ·cases h
 |_=>cases h
end
end Go.Proofs.YtbofilglphfceaaGreat
