import Derived.Test.YtgjfgekaclobaaaGreatCm44
namespace Go.Proofs.YtgjfgekaclobaaaGreat
set_option linter.unusedVariables false
set_option linter.unusedSimpArgs false
open Go.RowKit
def wl (so:List (Nat × Ob)) (N:Nat):List (Nat × Option Ob):=(List.range N).map fun k=>(k,cM so k)
theorem Rp {so:List (Nat × Ob)}{N:Nat}{G:Nat->Option Ob}(k:Nat):cR G (wl so N) k=if k < N then cM so k else G k:=by
 have key:∀ (l:List Nat),cR G (l.map fun k=>(k,cM so k)) k=if k ∈ l then cM so k else G k:=by
  intro l
  induction l with
  |nil=>rfl
  |cons j l ih =>
   rw [List.map_cons,cR]
   by_cases e:k=j
   ·subst e;rw [ah,if_pos (by simp)]
   ·rw [aq _ _ e,ih];simp [e]
 rw [wl,key]
 simp
theorem CL {T:aa}{W:List (Nat × Option Ob)}{m:Bool}:(cJ T W m).get=cR T.get W/\(cJ T W m).nx=T.nx+yx W m:=by rw [dp];exact⟨rfl,rfl⟩
structure uh (so:List (Nat × Ob)) (N:Nat):Prop where
 get:∀ j o,cM so j=some o->j < N/\kH N o/\∀ J,o ≠ .fo J
section
variable {P:Program}{w0:World}{dr:Bool}{N B n:Nat}{so so':List (Nat × Ob)}{S T:aa}{α:AA}{f:FuncId}{args:List AV}{r:AV}
theorem aE.here (h:aE P w0 f args (au so N) r (au so' N)) (hN:N<=T.nx) (hs:uh so N) (hg:∀ j o,cM so j=some o->T.get j=some o) (eg:uh so' N) (ha:∀ a ∈ args,cC N a) (hr:cC N r) (m:Bool):aE P w0 f args T r (cJ T (wl so' N) m):=by
 obtain⟨T',tL⟩:∃ T':aa,T'=⟨fun k=>if k < T.nx then T.get k else none,T.nx⟩:=⟨_,rfl⟩
 have get':∀ k o,T'.get k=some o->k < T.nx/\T.get k=some o:=fun k o hk=>by
  rw [tL] at hk
  have hk:(if k < T.nx then T.get k else none)=some o:=hk
  split at hk
  ·exact⟨by assumption,hk⟩
  ·cases hk
 have oZ:T'.nx=T.nx:=by rw [tL]
 have tM:∀ k o,k < T.nx->T.get k=some o->T'.get k=some o:=fun k o hk h=>by
  rw [tL]
  show (if k < T.nx then T.get k else none)=some o
  rw [if_pos hk];exact h
 obtain⟨U,hU⟩:∃ U:aa,U=⟨fun k=>if k < N then cM so' k else T'.get k,T.nx⟩:=⟨_,rfl⟩
 have ho:∀ k,k < N->da id N T'.nx k=k:=fun k hk=>kB hk
 have hf:Fits id (au so N) (au so' N) T' U:=by
  refine⟨fun i j _ _ e=>e,fun j hj=>by rw [oZ];exact Nat.lt_of_lt_of_le hj hN,fun j o hj=>?_,fun k o hk=>?_,.inr ⟨Nat.le_refl _,by rw [hU,oZ]⟩,.inr fun j J hj=>?_⟩
  ·obtain⟨h1,h3,h4⟩:=hs.get j o hj
   exact⟨o,tM j o (Nat.lt_of_lt_of_le h1 hN) (hg j o hj),kJ.bT h3 h4⟩
  ·rw [hU] at hk
   have hk:(if k < N then cM so' k else T'.get k)=some o:=hk
   split at hk
   ·rename_i eY
    obtain⟨q1,q3,q4⟩:=eg.get k o hk
    refine .inl ⟨k,o,ho k eY,hk,fun gc g w b cp hB _ lJ=>?_,fun J e=>e⟩
    have l9:∀ k,k < N->da id (au so N).nx T'.nx k=k:=ho
    exact cH.bT (B:=N) (fun k hk ha=>by have:=hB.al k ha;rwa [l9 k hk] at this) (fun k hk ha=>by have:=hB.ob k ha;rwa [l9 k hk] at this) (fun k hk ha=>by have:=hB.cp k ha;rwa [l9 k hk] at this) hB.fz q3 q4 (fun hk h=>aA.back l9 hB hk h) lJ
   ·rename_i eY
    exact .inr ⟨by rw [oZ];exact (get' k o hk).1,fun j hj e=>eY (by rw [<-e];exact hj),hk⟩
  ·exact absurd rfl ((eg.get j _ hj).2.2 J)
 have hc:=h.frame hf rfl (fun i a b h1 h2=>by
  rw [h1] at h2
  obtain rfl:=Option.some.inj h2
  exact Rn.bT (ha _ (List.mem_of_getElem? h1))) (fun gc g w x hB lJ=>aA.back (N:=N) (o:=da id (au so N).nx T'.nx) ho hB hr lJ)
 refine⟨hc.1,fun F m' A g aV w hF hS hA=>(hc.2 F m' A g aV w hF (hS.forget (by rw [oZ];exact Nat.le_refl _) fun j p hj _=>(get' j p hj).2) hA).mono ?_⟩
 rintro e w' ⟨v,g',rfl,h1,h2,h3⟩
 refine⟨v,g',rfl,h1,h2.forget (by rw [CL.2,hU];exact Nat.le_add_right _ _) fun j p hj aH=>?_,h3⟩
 have aB:=h2.al j aH
 rw [hU] at aB ⊢
 have aB:j < T.nx:=aB
 rw [CL.1,Rp] at hj
 show (if j < N then cM so' j else T'.get j)=some p
 split
 ·rename_i e;rwa [if_pos e] at hj
 ·rename_i e;rw [if_neg e] at hj;exact tM j p aB hj
theorem ad.iz {fq:QO}{jz:List QO}(hc:aE P w0 f args (au so N) r (au so' N)) (h:dZ (fq.ev α.tm) (jz.map (·.ev α.tm))=some (f,args)) (hN:N<=T.nx) (hs:uh so N) (hg:∀ j o,cM so j=some o->T.get j=some o) (eg:uh so' N) (ha:∀ a ∈ args,cC N a) (hr:cC N r) :
  ad P w0 false (.call fq jz) α T r (cJ T (wl so' N) false):=ad.call h (hc.here hN hs hg eg ha hr false) fun e=>by cases e
theorem a_.iz {fq:QO}{jz:List QO}(m:Bool) (hc:aE P w0 f args (au so N) r (au so' N)) (h:dZ (fq.ev α.tm) (jz.map (·.ev α.tm))=some (f,args)) (hN:N<=B\/(m=true/\N<=S.nx)) (hs:uh so N) (hg:fu S so) (hd:∀ p ∈ so,cM so p.1=some p.2) (eg:uh so' N) (ha:∀ a ∈ args,cC N a) (hr:cC N r) :
  a_ P w0 B (.call fq jz) α S r ⟨so,wl so' N,m⟩:=by
 intro n o fg
 obtain⟨c,u,ho,hu,Jv,has⟩:=jZ fg
 refine⟨fun hp=>(by rw [ho] at hp;simp only [l8,kE,hu] at hp;cases hp),hg,fun T hB hT hm=>?_⟩
 have eo:∀ q ∈ (.call c:Op).operands,(α.only (bU o)).ev q=α.ev q:=fun q hq=>dM fun t ht=>dA (by rw [ho,<-ht];exact hq)
 have h':dZ (fq.ev (α.only (bU o)).tm) (jz.map (·.ev (α.only (bU o)).tm))=some (f,args):=by
  rw [<-h,Jv,has,aD,aD,iO,iO,eo u (show u ∈ c.operands by simp [Call.operands,hu])]
  congr 1
  exact List.map_congr_left fun q hq=>eo q (show q ∈ c.operands by simp [Call.operands,hu];exact .inr (by simpa using hq))
 refine (ad.call (dr:=false) h' (hc.here (T:=T) ?_ hs (fun j o hj=>hT (j,o) (dY hj)) eg ha hr m) (fun e=>by cases e)) n o fg
 rcases hN with hN|⟨e,hN⟩
 ·exact Nat.le_trans hN hB
 ·rw [hm e];exact hN
end
section
variable {P:Program}{w0:World}{n B:Nat}{o:Oper}{α:AA}{S:aa}{r:AV}
theorem HL {t e:TypeId}{len sz:Nat}{parts:Array (Nat × Operand)}{z:Value}{rows:List (List AV)}(ho:o.op=.buildSlice t len parts) (hu:P.underlying t=some (.slice e)) (hz:b8 P e=some z) (hs:bZ P e=some sz)
  (h1:len*sz<=16777216) (h2:z.cells.size=sz) (h3:0 < sz) (h:oh sz (List.replicate len (z.cells.toList.map a8)) (parts.toList.map fun (i,x)=>(i,α.ev x))=some rows):aI P w0 n o α S (.gr S.nx sz rows.length) (S.new (.arr sz rows 0 false)):=by
 intro A g a w hS hA
 obtain⟨cs,hf,hr,hl⟩:=qk h (by rw [<-h2];exact Ae (by omega)) (pK hA parts.toList)
 rw [List.length_replicate] at hl
 obtain⟨hE,b_⟩:=hS.new (.cells cs e) (.arr sz rows 0 false) len (fun J=>by simp) (fun hL=>by
  refine⟨cs,e,ct,by rw [hr.1,hl],by omega,(fun h=>by cases h),fun i row hi=>?_,Nat.zero_le _,fun q=>⟨fun hf=>?_,fun hf=>by simp at hf⟩⟩
  ·obtain⟨q1,q2⟩:=hr.2 i row hi
   refine⟨q1,fun j a ha=>?_⟩
   obtain⟨x,hx,cK⟩:=q2 j a ha
   exact⟨x,hx,cK.later hL⟩
  ·exact absurd (hS.bM _ _ hf) (by omega))
 refine⟨.slice (some ⟨w.heap.size,0,none⟩) len len,w.alloc (.cells cs e),g.new S.nx w.heap.size len,.inl ?_,?_,b_,hE⟩
 ·have vS:¬ (len*sz > 2 ^ 24):=by omega
  rw [h2] at hf
  simp only [execOp,ho,Instr.buildSlice,Sem.run_bind,run_underlying hu,Result.andThen_ok,bF hs,if_neg vS]
  by_cases c:len*sz=0
  ·have e0:∀ f:Nat->Value,(Array.range (len*sz)).map f=#[]:=fun f=>by rw [c];simp
   rw [e0] at hf
   have tN:Instr.fill (fun i=>some (i*sz,sz)) ((Array.range (len*sz)).map fun x=>(#[]:Array Value)[x % (#[]:Array Value).size]!) (Array.map (fun x=>(x.fst,a.eval x.snd)) parts).toList=some cs:=by
    rw [e0,Array.toList_map]
    exact hf
   rw [if_pos c]
   simp only [Sem.run_bind,Sem.run_pure,Result.andThen_ok,tN,newRow,run_newObj]
   rfl
  ·have tN:Instr.fill (fun i=>some (i*sz,sz)) ((Array.range (len*sz)).map fun x=>z.cells[x % z.cells.size]!) (Array.map (fun x=>(x.fst,a.eval x.snd)) parts).toList=some cs:=by
    rw [Array.toList_map,h2]
    exact hf
   rw [if_neg c]
   simp only [Sem.run_bind,iX hz,Sem.run_pure,Result.andThen_ok,tN,newRow,run_newObj]
   rfl
 ·have:=aA.gr (g:=g.new S.nx w.heap.size len) (w:=w.alloc (.cells cs e)) (k:=S.nx) (sz:=sz) (len:=rows.length) (c:=len) (.inr rfl) (ah _ _ _).symm (by omega)
  rw [show (g.new S.nx w.heap.size len).ob S.nx=w.heap.size from ah _ _ _,hl] at this
  rw [hl]
  exact this
theorem MG {op:Op}{sz:Nat}{r0:List (List AV)}{ps:List (Nat × QO)}(h:res P.toTables op=some (.rows sz r0 ps)):∃ t e len parts z,op=.buildSlice t len parts/\P.underlying t=some (.slice e)/\b8 P e=some z/\bZ P e=some sz/\len*sz<=16777216/\z.cells.size=sz/\0 < sz/\r0=List.replicate len (z.cells.toList.map a8)/\ps=parts.toList.map fun (i,x)=>(i,qo x):=by
 cases op with
 |buildSlice t len parts =>
  simp only [res,ic,eK,cL] at h
  split at h
  ·rename_i e he
   split at h
   ·rename_i z n hz hs
    split at h
    ·rename_i hb
     simp only [Option.some.injEq,cB.rows.injEq] at h
     obtain⟨rfl,rfl,rfl⟩:=h
     simp only [Bool.and_eq_true] at hb
     have hu:P.underlying t=some (.slice e):=by
      unfold eu at he
      split at he
      ·rename_i h;rw [h,Option.some.inj he]
      ·cases he
     exact⟨_,_,_,_,_,rfl,hu,hz,hs,Nat.le_of_ble_eq_true hb.1.1,Nat.eq_of_beq_eq_true hb.1.2,c_ hb.2,rfl,rfl⟩
    ·cases h
   all_goals cases h
  ·cases h
 |_ =>
  simp only [res] at h
  repeat' split at h
  all_goals cases h
theorem a_.WK {sz:Nat}{r0 rows:List (List AV)}{ps:List (Nat × QO)}(h:oh sz r0 (ps.map fun (i,x)=>(i,x.ev α.tm))=some rows):a_ P w0 B (.rows sz r0 ps) α S (.gr S.nx sz rows.length) ⟨[],[(S.nx,some (.arr sz rows 0 false))],true⟩:=by
 intro n o hr
 obtain⟨t,e,len,parts,z,ho,h1,h2,h3,h4,h5,h6,rfl,rfl⟩:=MG hr
 refine⟨fun hp=>(by rw [ho] at hp;cases hp),(show fu S [] from fun p hp=>by cases hp),fun T _ _ hm=>?_⟩
 have e1:T.nx=S.nx:=hm rfl
 have e2:cJ T [(S.nx,some (.arr sz rows 0 false))] true=T.new (.arr sz rows 0 false):=by
  rw [<-e1];cases T;rfl
 rw [e2,<-e1]
 refine (HL ho h1 h2 h3 h4 h5 h6 ?_).ops fun c e=>by rw [ho] at e;cases e
 have eo:∀ q ∈ (Op.buildSlice t len parts).operands,(α.only (bU o)).ev q=α.ev q:=fun q hq=>dM fun t ht=>dA (by rw [ho,<-ht];exact hq)
 rw [<-h,List.map_map]
 congr 1
 refine List.map_congr_left fun p hp=>?_
 simp only [Function.comp,aD]
 rw [eo p.2 (by simp only [Op.operands];simp;exact⟨p.1,by simpa using hp⟩)]
theorem J9 {o:Oper}{sz:Nat}{x hi:QO}{k len h:Nat}{ik:IntKind}{j:Int}{rows:List (List AV)}{ex:Bool}(hr:res P.toTables o.op=some (.slice (.sl sz) x none (some hi) none)) (hx:x.ev α.tm=.gr k sz len) (hk:S.get k=some (.arr sz rows 0 ex)) (hn:len=rows.length) (hj:hi.ev α.tm=.v (.int ik j)) (hh:j=h) (aB:h < len) :
  aI P w0 n o α S (.gr k sz h) (S.set k (some (.arr sz (rows.take h) 0 false))):=by
 obtain⟨t,u,v,e,ho,rfl,rfl,hu,hs⟩:∃ t u v e,o.op=.slice t u none (some v) none/\x=qo u/\hi=qo v/\P.underlying t=some (.slice e)/\bZ P e=some sz:=by
  generalize o.op=op at hr
  cases op with
  |slice t u lo hh mx =>
   simp only [res,a7,cL] at hr
   split at hr
   ·simp at hr
   ·rename_i e he
    split at hr
    ·rename_i m hm
     simp only [Option.some.injEq,cB.slice.injEq,SK.sl.injEq] at hr
     obtain⟨rfl,rfl,h1,h2,h3⟩:=hr
     cases lo with
     |some _=>cases h1
     |none =>
      cases mx with
      |some _=>cases h3
      |none =>
       cases hh with
       |none=>cases h2
       |some v=>exact⟨t,u,v,e,rfl,rfl,(Option.some.inj h2).symm,he,hm⟩
    ·cases hr
   ·cases hr
  |_ =>
   simp only [res] at hr
   repeat' split at hr
   all_goals cases hr
 rw [aD] at hx hj
 intro A g a w hS hA
 have h1:=hA.ev u
 have h2:=hA.ev v
 rw [hx] at h1
 rw [hj] at h2
 rcases me h1 with ⟨rfl,_⟩|⟨aH,c,hv,hc,hle⟩
 ·omega
 ·have hb:=jo (P:=P) (isSl:=true) (len:=len) (cap:=c) (w:=w) (lo:=none) (hi:=some v) (l:=0) (h:=j) hA rfl (by simp only [Option.map_some,iS,hj]) (Int.le_refl _) (by omega) (by omega)
  have ga:(Instr.slice t (a.eval u) none (some (a.eval v)) none).run P w=.ok (.slice (some ⟨g.ob k,0,none⟩) h c) w:=by
   subst hh
   simp only [Option.map_none,Option.map_some] at hb
   simp [Instr.slice,hv,run_underlying hu,hb,bF hs,dV]
  have dO:St w0 A g (S.set k (some (.arr sz (rows.take h) 0 false))) w:=by
   refine hS.AT (Nat.le_refl _) fun i o' hi ha=>?_
   have hi:aX S.get k (some (.arr sz (rows.take h) 0 false)) i=some o':=hi
   by_cases e':i=k
   ·subst e'
    rw [ah] at hi
    obtain rfl:=Option.some.inj hi
    refine⟨_,hk,fun lJ=>?_,fun J h=>by cases h⟩
    obtain⟨cs,ty,p1,p2,p3,p4,p5,p6,p7⟩:=lJ
    refine⟨cs,ty,p1,p2,by rw [List.length_take];omega,(fun h=>by cases h),fun i row hi=>?_,Nat.zero_le _,p7⟩
    rw [List.getElem?_take] at hi
    split at hi
    ·exact p5 i row hi
    ·cases hi
   ·rw [aq _ _ e'] at hi
    exact⟨o',hi,fun h=>h,fun J h=>h⟩
  refine⟨_,w,g,.inl ?_,.gr aH hc (by omega),dO,Ext.refl ..⟩
  simp only [execOp,ho,Sem.run_bind,Option.map_none,Option.map_some,rZ hu (fun _ _ h=>by cases h),ga,Result.andThen_ok]
  rfl
theorem ad.WL {sz:Nat}{x hi:QO}{k len h:Nat}{ik:IntKind}{j:Int}{rows:List (List AV)}{ex:Bool}(hx:x.ev α.tm=.gr k sz len) (hk:S.get k=some (.arr sz rows 0 ex)) (hn:len=rows.length) (hj:hi.ev α.tm=.v (.int ik j)) (hh:j=h) (aB:h < len) :
  ad P w0 false (.slice (.sl sz) x none (some hi) none) α S (.gr k sz h) (S.set k (some (.arr sz (rows.take h) 0 false))):=ad.run fun n o hr=>J9 hr hx hk hn hj hh aB
end
theorem EG {G H:Nat->Option Ob}{k:Nat}:∀ {W:List (Nat × Option Ob)},k ∈ W.map (·.1)->cR G W k=cR H W k
 |[],h=>by cases h
 |p::W,h=>by
  by_cases e:k=p.1
  ·subst e;rw [cR,cR,ah,ah]
  ·rw [cR,cR,aq _ _ e,aq _ _ e]
   exact EG ((List.mem_cons.1 h).resolve_left e)
theorem jk.sub {ι:Nat->Nat}{M:Nat}{T T':aa}(h:∀ k o,T.get k=some o->k < T.nx->T'.get k=some o) (hM:∀ j,j < M->ι j < T.nx):∀ {l:List (Nat × Ob)},l.all (fun p=>Nat.blt p.1 M)=true->jk ι M T l->jk ι M T' l
 |[],_,_=>trivial
 |p::l,hk,hc=>by
  rw [List.all_cons,Bool.and_eq_true] at hk
  obtain⟨bm,h1,h2⟩:=hc.1
  exact⟨⟨bm,h _ _ h1 (hM _ (c_ hk.1)),h2⟩,jk.sub h hM hk.2 hc.2⟩
section
variable {P:Program}{w0:World}{N N' B n:Nat}{so so':List (Nat × Ob)}{S T:aa}{α:AA}{f:FuncId}{args dB:List AV}{r lE:AV}{m:List (Nat × Nat)}{to:List (Nat × Option Ob)}
theorem aE.OC (h:aE P w0 f args (au so N) r (au so' N')) (ha:vu (aN m) N dB args) (hr:Rb (da (aN m) N T.nx) r lE) (hi:rD (aN m) (List.range N)=true) (aB:(List.range N).all (fun j=>Nat.blt (aN m j) T.nx)=true) (hS:jk (aN m) N T so) (hk:so.all (fun p=>Nat.blt p.1 N)=true)
  (hT:iL (da (aN m) N T.nx) so' to) (hc:(List.range N).all (fun j=>(to.map (·.1)).contains (aN m j))=true) (fS:(List.range N').all (fun j=>(to.map (·.1)).contains (T.nx+j))=true) (hf:rE so'=true) {e:Nat}(he:N'<=e):aE P w0 f dB T lE ⟨cR T.get to,T.nx+e⟩:=by
 obtain⟨T',tL⟩:∃ T':aa,T'=⟨fun k=>if k < T.nx then T.get k else none,T.nx⟩:=⟨_,rfl⟩
 have get':∀ k o,T'.get k=some o->k < T.nx/\T.get k=some o:=fun k o hk=>by
  rw [tL] at hk
  have hk:(if k < T.nx then T.get k else none)=some o:=hk
  split at hk
  ·exact⟨by assumption,hk⟩
  ·cases hk
 have oZ:T'.nx=T.nx:=by rw [tL]
 have tM:∀ k o,T.get k=some o->k < T.nx->T'.get k=some o:=fun k o h hk=>by
  rw [tL]
  show (if k < T.nx then T.get k else none)=some o
  rw [if_pos hk];exact h
 rw [<-oZ] at hr aB hT
 have hM:∀ j,j < N->aN m j < T.nx:=fun j hj=>by
  have:=c_ (List.all_eq_true.1 aB j (List.mem_range.2 hj))
  rwa [oZ] at this
 have hF:=DX (N':=N') hi aB (hS.sub tM hM hk) hT hc (by simp) (fun k o hk=>by rw [oZ];exact (get' k o hk).1) (.inr hf)
 have cA:=h.frame hF ha.at.1 (fun i a b h1 h2=>by
  obtain⟨a',h3,h4⟩:=ha.at.2 i b h2
  rw [h3] at h1
  rw [<-Option.some.inj h1];exact h4) hr
 refine⟨cA.1,fun F m' A g aV w hF hS hA=>(cA.2 F m' A g aV w hF (hS.forget (by rw [oZ];exact Nat.le_refl _) fun j p hj _=>(get' j p hj).2) hA).mono ?_⟩
 rintro e' w' ⟨v,g',rfl,h1,h2,h3⟩
 refine⟨v,g',rfl,h1,h2.forget (by show T'.nx+N'<=T.nx+e;omega) fun j p hj aH=>?_,h3⟩
 have RX:j < T'.nx+N':=h2.al j aH
 have hj:cR T.get to j=some p:=hj
 show cR T'.get to j=some p
 by_cases pf:j ∈ to.map (·.1)
 ·rw [EG (H:=T.get) pf];exact hj
 ·rw [fX pf] at hj ⊢
  refine tM j p hj ?_
  by_cases h5:j < T.nx
  ·exact h5
  ·exfalso
   refine pf ?_
   have:=List.all_eq_true.1 fS (j - T.nx) (List.mem_range.2 (by omega))
   rw [show T.nx+(j - T.nx)=j by omega] at this
   simpa using this
theorem ad.pS {fq:QO}{jz:List QO}(m:List (Nat × Nat)) (to:List (Nat × Option Ob)) (cA:aE P w0 f args (au so N) r (au so' N')) (h:dZ (fq.ev α.tm) (jz.map (·.ev α.tm))=some (f,dB)) (ha:vu (aN m) N dB args) (hr:Rb (da (aN m) N T.nx) r lE) (hS:jk (aN m) N T so) (hT:iL (da (aN m) N T.nx) so' to)
  (hi:rD (aN m) (List.range N)=true:=by rfl) (aB:(List.range N).all (fun j=>Nat.blt (aN m j) T.nx)=true:=by rfl) (hk:so.all (fun p=>Nat.blt p.1 N)=true:=by rfl) (hc:(List.range N).all (fun j=>(to.map (·.1)).contains (aN m j))=true:=by rfl) (fS:(List.range N').all (fun j=>(to.map (·.1)).contains (T.nx+j))=true:=by rfl) (hf:rE so'=true:=by rfl) :
  ad P w0 false (.call fq jz) α T lE ⟨cR T.get to,T.nx+N'⟩:=ad.call h (cA.OC ha hr hi aB hS hk hT hc fS hf (Nat.le_refl _)) fun e=>by cases e
theorem a_.pS {fq:QO}{jz:List QO}(m:List (Nat × Nat)) (F:List (Nat × Ob)) (to:List (Nat × Option Ob)) (cA:aE P w0 f args (au so N) r (au so' N')) (h:dZ (fq.ev α.tm) (jz.map (·.ev α.tm))=some (f,dB)) (ha:vu (aN m) N dB args) (hr:Rb (da (aN m) N S.nx) r lE) (hF:fu S F) (hS:∀ T,fu T F->jk (aN m) N T so) (hT:iL (da (aN m) N S.nx) so' to)
  (hi:rD (aN m) (List.range N)=true:=by rfl) (aB:(List.range N).all (fun j=>Nat.blt (aN m j) S.nx)=true:=by rfl) (hk:so.all (fun p=>Nat.blt p.1 N)=true:=by rfl) (hc:(List.range N).all (fun j=>(to.map (·.1)).contains (aN m j))=true:=by rfl) (fS:(List.range N').all (fun j=>(to.map (·.1)).contains (S.nx+j))=true:=by rfl) (hf:rE so'=true:=by rfl) (he:Nat.ble N' (yx to true)=true:=by rfl) :
  a_ P w0 B (.call fq jz) α S lE ⟨F,to,true⟩:=by
 intro n o fg
 obtain⟨c,u,ho,hu,Jv,has⟩:=jZ fg
 refine⟨fun hp=>(by rw [ho] at hp;simp only [l8,kE,hu] at hp;cases hp),hF,fun T hB hT2 hm=>?_⟩
 have e:T.nx=S.nx:=hm rfl
 have eo:∀ q ∈ (.call c:Op).operands,(α.only (bU o)).ev q=α.ev q:=fun q hq=>dM fun t ht=>dA (by rw [ho,<-ht];exact hq)
 have h':dZ (fq.ev (α.only (bU o)).tm) (jz.map (·.ev (α.only (bU o)).tm))=some (f,dB):=by
  rw [<-h,Jv,has,aD,aD,iO,iO,eo u (show u ∈ c.operands by simp [Call.operands,hu])]
  congr 1
  exact List.map_congr_left fun q hq=>eo q (show q ∈ c.operands by simp [Call.operands,hu];exact .inr (by simpa using hq))
 rw [<-e] at hr hT aB fS
 rw [dp]
 exact (ad.call (dr:=false) h' (cA.OC ha hr hi aB (hS T hT2) hk hT hc fS hf (Nat.le_of_ble_eq_true he)) (fun e=>by cases e)) n o fg
end
section
variable {P:Program}{w0:World}{rd:Bool}{n:Nat}{Q:Exit->AA->aa->Prop}{α:AA}{S:aa}{l:List QI}{K:List ig}{T:Type}{ρ:Hd}{f:T->AV}{kv:List (Int × T)}
theorem ad.CM {z:AV}{c:Bool}{x i:QO}{k:Nat}{es:List (Value × AV)}{m:Int}(hx:x.ev α.tm=.mp k) (hS:S.get k=some (.mb es)) (hk:ji es) (hi:i.ev α.tm=.v (.int .i64 m)) :
  ad P w0 true (.look z c x i) α S (match lu es m with|some a=>(if c then .aC [a,.v (.bool true)] else a)|none=>(if c then .aC [z,.v (.bool false)] else z)) S:=by
 intro n o hr
 obtain⟨t,u,v,kt,et,kk,zv,ho,rfl,rfl,h1,h2,h3,rfl⟩:=wc hr
 rw [aD] at hx hi
 have e:∀ y ∈ [u,v],(α.only (bU o)).ev y=α.ev y:=fun y hy=>dM fun t ht=>dA (by rw [ho];simp [Op.operands,<-ht];simpa using hy)
 refine⟨(sQ ho h1 h2 h3 (by rw [e u (by simp)];exact hx) (fun A g w b_ aH=>?_) hk (by rw [e v (by simp)];exact hi)).ops fun c e=>(by rw [ho] at e;cases e),fun hp=>(by rw [ho] at hp;cases hp),fun _=>rfl⟩
 obtain⟨_,_,entries,q1,q2,q3,_⟩:=b_.bj k _ hS aH
 exact⟨entries,_,q1,q2,q3⟩
theorem ab.CM {d:Option Nat}{g:Option (Nat × Bool)}{z:AV}{c:Bool}{x i:QO}{k:Nat}{m:Int}(hw:bB α.tm g=some true) (hx:x.ev α.tm=.mp k) (hS:S.get k=some (.mb (ρ.h (cu f) kv))) (hi:i.ev α.tm=.v (.int .i64 m))
  (k1:∀ v,ao kv m=some v->ab P w0 rd n Q (.aR true l K) (bJ d α (if c then .aC [f v,.v (.bool true)] else f v)) S) (k2:ao kv m=none->ab P w0 rd n Q (.aR true l K) (bJ d α (if c then .aC [z,.v (.bool false)] else z)) S) :
  ab P w0 rd n Q (.aR true (⟨d,g,.look z c x i⟩::l) K) α S:=by
 have h:=ad.CM (P:=P) (w0:=w0) (z:=z) (c:=c) hx hS (by rw [ρ.eq];exact lS) hi
 rw [ρ.eq,pz] at h
 refine ab.op (i:=⟨d,g,.look z c x i⟩) hw h ?_
 cases hl:ao kv m with
 |some v=>exact k1 v hl
 |none=>exact k2 hl
end
section
variable {ι:Nat->Nat}{M:Nat}
theorem kJ.mb {es:List (Value × AV)}(h:∀ e ∈ es,Pure e.2):kJ ι M (.mb es) (.mb es):=by
 refine⟨fun g w b cp hr=>?_,fun J h=>by cases h⟩
 obtain⟨entries,h1,h2,h3,h4⟩:=hr
 refine⟨entries,h1,h2,fun i k a ha=>?_,h4⟩
 obtain⟨e,he,hk,hr⟩:=h3 i k a ha
 exact⟨e,he,hk,Rn.pure (h _ (List.mem_of_getElem? ha)) g w _ hr⟩
theorem l_.mb {es:List (Value × AV)}(h:∀ e ∈ es,Pure e.2):l_ ι (.mb es) (.mb es):=by
 refine⟨fun gc g w b cp hB _ hr=>?_,fun J h=>by cases h⟩
 obtain⟨entries,h1,h2,h3,h4⟩:=hr
 refine⟨entries,h1,h2,fun i k a ha=>?_,h4⟩
 obtain⟨e,he,hk,hr⟩:=h3 i k a ha
 exact⟨e,he,hk,Rb.pure (h _ (List.mem_of_getElem? ha)) gc g w _ hB hr⟩
end
section
variable {P:Program}{w0:World}{rd:Bool}{n:Nat}{Q:Exit->AA->aa->Prop}{α:AA}{S:aa}{l:List QI}{K:List ig}{T:Type}{ρ:Hd}{f:T->List AV}{acc:List T}
theorem ad.WM {sz by_ t k len:Nat}{ex ex':Bool}{b:QO}{rows more:List (List AV)}{x:List AV}(ha:α.tm t=.gr k sz len) (hk:S.get k=some (.arr sz rows 0 ex)) (hn:len=rows.length) (mK:∀ c,b.ev (aX α.tm t c)=b.ev α.tm) (hb:b.ev α.tm=.sl ex' (x::more))
  (h3:∀ row ∈ x::more,row.length=sz/\row.all bl=true) (h4:(len+(x::more).length)*by_<=35184372088832):ad P w0 true (.append sz by_ (.t t) b) α S (.gr S.nx sz (len+(x::more).length)) ((S.set k none).new (.arr sz (rows++x::more) 0 false)):=by
 intro n o hr
 obtain⟨h5,h6,h7⟩:=a_.Bp (P:=P) (w0:=w0) (B:=0) ha hk hn mK hb h3 h4 n o hr
 have h8:=h7 S (Nat.zero_le _) h6 (fun _=>rfl)
 rw [dp] at h8
 obtain⟨c,t2,t3,u,v,e,e2,z,ho,hc,_⟩:=kA hr
 exact⟨h8,fun hp=>(by rw [uQ hr] at hp;cases hp),fun hw=>(by rw [ho] at hw;simp only [sJ,hc] at hw;cases hw)⟩
theorem ab.Tu {dd:Option Nat}{gg:Option (Nat × Bool)}{t:Nat}{b:QO}{sz by_ k len:Nat}{ex ex':Bool}(x:T) (hw:bB α.tm gg=some true) (h1:α.tm t=.gr k sz len) (hk:S.get k=some (.arr sz (ρ.h (List.map f) acc) 0 ex)) (hn:len=acc.length) (mK:∀ c,b.ev (aX α.tm t c)=b.ev α.tm)
  (hb:b.ev α.tm=.sl ex' [f x]) (hl:(f x).length=sz) (hc:(f x).all bl=true) (hy:(len+1)*by_<=35184372088832)
  (kk:∀ dk gR,dk=acc++[x]->gR=dk.length->ab P w0 rd n Q (.aR true l K) (bJ dd α (.gr S.nx sz gR)) ((S.set k none).new (.arr sz (ρ.h (List.map f) dk) 0 false))):ab P w0 rd n Q (.aR true (⟨dd,gg,.append sz by_ (.t t) b⟩::l) K) α S:=by
 have hlen:(ρ.h (List.map f) acc).length=acc.length:=aF
 have h:=kk _ _ rfl rfl
 have e:ρ.h (List.map f) acc++[f x]=ρ.h (List.map f) (acc++[x]):=by rw [ρ.eq,ρ.eq,List.map_append];rfl
 rw [<-e,show (acc++[x]).length=len+[f x].length by simp;omega] at h
 exact ab.op (i:=⟨dd,gg,.append sz by_ (.t t) b⟩) hw (ad.WM (x:=f x) (more:=[]) h1 hk (by omega) mK hb (fun row hr=>by obtain rfl:=List.mem_singleton.1 hr;exact⟨hl,hc⟩) (by simpa using hy)) h
end
end Go.Proofs.YtgjfgekaclobaaaGreat
