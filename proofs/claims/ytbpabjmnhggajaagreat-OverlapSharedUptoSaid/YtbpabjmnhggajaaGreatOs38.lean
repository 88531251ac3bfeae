import Derived.Test.YtbpabjmnhggajaaGreatOs37
namespace Go.Proofs.YtbpabjmnhggajaaGreat
set_option linter.unusedVariables false
set_option linter.unusedSimpArgs false
open Go.RowKit
def wl (so:List (Nat × Ob)) (N:Nat):List (Nat × Option Ob):=(List.range N).map fun k=>(k,dL so k)
theorem Xg {so:List (Nat × Ob)}{N:Nat}{G:Nat->Option Ob}(k:Nat):dC G (wl so N) k=if k < N then dL so k else G k:=by
 have key:∀ (l:List Nat),dC G (l.map fun k=>(k,dL so k)) k=if k ∈ l then dL so k else G k:=by
  intro l
  induction l with
  |nil=>rfl
  |cons j l ih =>
   rw[List.map_cons,dC];by_cases e:k=j
   ·grind[az]
   ·grind[aD]
 rw[wl,key];simp
theorem I9 {T:ae}{W:List (Nat × Option Ob)}{m:Bool}:(dm T W m).get=dC T.get W/\(dm T W m).nx=T.nx+Cp W m:=by grind[dT]
structure zK (so:List (Nat × Ob)) (N:Nat):Prop where
 get:∀ j o,dL so j=some o->j < N/\fR N o/\∀ J,o ≠ .fo J
section
variable {P:Program}{w0:World}{dr:Bool}{N B n:Nat}{so so':List (Nat × Ob)}{S T:ae}{α:AA}{f:FuncId}{args:List AV}{r:AV}
theorem aC.here (h:aC P w0 f args (aq so N) r (aq so' N)) (hN:N<=T.nx) (hs:zK so N) (hg:∀ j o,dL so j=some o->T.get j=some o) (iG:zK so' N) (ha:∀ a ∈ args,dz N a) (hr:dz N r) (m:Bool):aC P w0 f args T r (dm T (wl so' N) m):=by
 obtain⟨T',zj⟩:∃ T':ae,T'=⟨fun k=>if k < T.nx then T.get k else none,T.nx⟩:=⟨_,rfl⟩;have get':∀ k o,T'.get k=some o->k < T.nx/\T.get k=some o:=fun k o hk=>by
  rw[zj] at hk;have hk:(if k < T.nx then T.get k else none)=some o:=hk;split at hk
  ·grind
  ·grind
 have Bz:T'.nx=T.nx:=by grind
 have tH:∀ k o,k < T.nx->T.get k=some o->T'.get k=some o:=fun k o hk h=>by
  rw[zj];show (if k < T.nx then T.get k else none)=some o;rw[if_pos hk];exact h
 obtain⟨U,hU⟩:∃ U:ae,U=⟨fun k=>if k < N then dL so' k else T'.get k,T.nx⟩:=⟨_,rfl⟩;have ho:∀ k,k < N->cT id N T'.nx k=k:=fun k hk=>ny hk;have hf:Fits id (aq so N) (aq so' N) T' U:=by
  refine⟨fun i j _ _ e=>e,fun j hj=>by rw[Bz];exact Nat.lt_of_lt_of_le hj hN,fun j o hj=>?_,fun k o hk=>?_,.inr ⟨Nat.le_refl _,by grind⟩,.inr fun j J hj=>?_⟩
  ·obtain⟨h1,h3,h4⟩:=hs.get j o hj;exact⟨o,tH j o (Nat.lt_of_lt_of_le h1 hN) (hg j o hj),kP.aV h3 h4⟩
  ·rw[hU] at hk;have hk:(if k < N then dL so' k else T'.get k)=some o:=hk;split at hk
   ·rename_i gT;obtain⟨q1,q3,q4⟩:=iG.get k o hk;refine .inl ⟨k,o,ho k gT,hk,fun gc g w b cp hB _ oQ=>?_,fun J e=>e⟩;have tI:∀ k,k < N->cT id (aq so N).nx T'.nx k=k:=ho;exact dJ.aV (B:=N) (fun k hk ha=>by have:=hB.al k ha;rwa [tI k hk] at this) (fun k hk ha=>by have:=hB.ob k ha;rwa [tI k hk] at this) (fun k hk ha=>by have:=hB.cp k ha;rwa [tI k hk] at this) hB.fz q3 q4 (fun hk h=>aF.back tI hB hk h) oQ
   ·rename_i gT;exact .inr ⟨by grind,fun j hj e=>gT (by rw[<-e];exact hj),hk⟩
  ·exact absurd rfl ((iG.get j _ hj).2.2 J)
 have hc:=h.frame hf rfl (fun i a b h1 h2=>by
  rw[h1] at h2;obtain rfl:=oJ_ h2;exact Rn.aV (ha _ (List.mem_of_getElem? h1))) (fun gc g w x hB oQ=>aF.back (N:=N) (o:=cT id (aq so N).nx T'.nx) ho hB hr oQ)
 refine⟨hc.1,fun F m' A g args' w hF hS hA=>(hc.2 F m' A g args' w hF (hS.forget (by grind) fun j p hj _=>(get' j p hj).2) hA).mono ?_⟩;rintro e w' ⟨v,g',rfl,h1,h2,h3⟩;refine⟨v,g',rfl,h1,h2.forget (by rw[I9.2,hU];exact Nat.le_add_right _ _) fun j p hj aK=>?_,h3⟩;have aA:=h2.al j aK;rw[hU] at aA ⊢;have aA:j < T.nx:=aA;rw[I9.1,Xg] at hj;show (if j < N then dL so' j else T'.get j)=some p;split
 ·grind
 ·grind
theorem af.kA {fq:QO}{fM:List QO}(hc:aC P w0 f args (aq so N) r (aq so' N)) (h:dW (fq.ev α.tm) (fM.map (·.ev α.tm))=some (f,args)) (hN:N<=T.nx) (hs:zK so N) (hg:∀ j o,dL so j=some o->T.get j=some o) (iG:zK so' N) (ha:∀ a ∈ args,dz N a) (hr:dz N r) :
  af P w0 false (.call fq fM) α T r (dm T (wl so' N) false):=af.call h (hc.here hN hs hg iG ha hr false) fun e=>by grind
theorem a6.kA {fq:QO}{fM:List QO}(m:Bool) (hc:aC P w0 f args (aq so N) r (aq so' N)) (h:dW (fq.ev α.tm) (fM.map (·.ev α.tm))=some (f,args)) (hN:N<=B\/(m=true/\N<=S.nx)) (hs:zK so N) (hg:fC S so) (hd:∀ p ∈ so,dL so p.1=some p.2) (iG:zK so' N) (ha:∀ a ∈ args,dz N a) (hr:dz N r) :
  a6 P w0 B (.call fq fM) α S r ⟨so,wl so' N,m⟩:=by
 intro n o f_;obtain⟨c,u,ho,hu,Ib,has⟩:=kF f_;refine⟨fun hp=>(by grind[oP,m_]),hg,fun T hB hT hm=>?_⟩;have eo:∀ q ∈ (.call c:Op).operands,(α.only (cG o)).ev q=α.ev q:=fun q hq=>eH fun t ht=>en (by grind);have h':dW (fq.ev (α.only (cG o)).tm) (fM.map (·.ev (α.only (cG o)).tm))=some (f,args):=by
  rw[<-h,Ib,has,aI,aI,iF,iF,eo u (show u ∈ c.operands by simp[Call.operands,hu])];congr 1;exact List.map_congr_left fun q hq=>eo q (show q ∈ c.operands by simp[Call.operands,hu];exact .inr (by grind))
 refine (af.call (dr:=false) h' (hc.here (T:=T) ?_ hs (fun j o hj=>hT (j,o) (fg hj)) iG ha hr m) (fun e=>by grind)) n o f_;rcases hN with hN|⟨e,hN⟩
 ·grind
 ·grind
end
section
variable {P:Program}{w0:World}{n B:Nat}{o:Oper}{α:AA}{S:ae}{r:AV}
theorem Ny {t e:TypeId}{len sz:Nat}{parts:Array (Nat × Operand)}{z:Value}{rows:List (List AV)}(ho:o.op=.buildSlice t len parts) (hu:P.underlying t=some (.slice e)) (hz:de P e=some z) (hs:cY P e=some sz)
  (h1:len*sz<=16777216) (h2:z.cells.size=sz) (h3:0 < sz) (h:sG sz (List.replicate len (z.cells.toList.map bJ)) (parts.toList.map fun (i,x)=>(i,α.ev x))=some rows):aQ P w0 n o α S (.gr S.nx sz rows.length) (S.new (.arr sz rows 0 false)):=by
 intro A g a w hS hA;obtain⟨cs,hf,hr,hl⟩:=vw h (by rw[<-h2];exact F4 (by omega)) (uL hA parts.toList);rw[List.length_replicate] at hl;obtain⟨hE,cZ⟩:=hS.new (.cells cs e) (.arr sz rows 0 false) len (fun J=>by simp) (fun hL=>by
  refine⟨cs,e,dw,by rw[hr.1,hl],by omega,(fun h=>by grind),fun i row hi=>?_,Nat.zero_le _,fun q=>⟨fun hf=>?_,fun hf=>by grind⟩⟩
  ·obtain⟨q1,q2⟩:=hr.2 i row hi;refine⟨q1,fun j a ha=>?_⟩;obtain⟨x,hx,dR⟩:=q2 j a ha;exact⟨x,hx,dR.later hL⟩
  ·exact absurd (hS.cK _ _ hf) (by omega))
 refine⟨.slice (some ⟨w.heap.size,0,none⟩) len len,w.alloc (.cells cs e),g.new S.nx w.heap.size len,.inl ?_,?_,cZ,hE⟩
 ·have Iv:¬ (len*sz > 2 ^ 24):=by omega
  rw[h2] at hf;simp only[execOp,ho,Instr.buildSlice,Sem.run_bind,run_underlying hu,Result.andThen_ok,ct hs,if_neg Iv];by_cases c:len*sz=0
  ·have e0:∀ f:Nat->Value,(Array.range (len*sz)).map f=#[]:=fun f=>by grind
   rw[e0] at hf;have zq:Instr.fill (fun i=>some (i*sz,sz)) ((Array.range (len*sz)).map fun x=>(#[]:Array Value)[x % (#[]:Array Value).size]!) (Array.map (fun x=>(x.fst,a.eval x.snd)) parts).toList=some cs:=by
    rw[e0,Array.toList_map];exact hf
   rw[if_pos c];simp only[Sem.run_bind,Sem.run_pure,Result.andThen_ok,zq,newRow,run_newObj]
   rfl
  ·have zq:Instr.fill (fun i=>some (i*sz,sz)) ((Array.range (len*sz)).map fun x=>z.cells[x % z.cells.size]!) (Array.map (fun x=>(x.fst,a.eval x.snd)) parts).toList=some cs:=by
    rw[Array.toList_map,h2];exact hf
   rw[if_neg c];simp only[Sem.run_bind,lN hz,Sem.run_pure,Result.andThen_ok,zq,newRow,run_newObj]
   rfl
 ·have:=aF.gr (g:=g.new S.nx w.heap.size len) (w:=w.alloc (.cells cs e)) (k:=S.nx) (sz:=sz) (len:=rows.length) (c:=len) (.inr rfl) (az _ _ _).symm (by omega);rw[show (g.new S.nx w.heap.size len).ob S.nx=w.heap.size from az _ _ _,hl] at this;rw[hl];exact this
theorem Tp {op:Op}{sz:Nat}{r0:List (List AV)}{ps:List (Nat × QO)}(h:res P.toTables op=some (.rows sz r0 ps)):∃ t e len parts z,op=.buildSlice t len parts/\P.underlying t=some (.slice e)/\de P e=some z/\cY P e=some sz/\len*sz<=16777216/\z.cells.size=sz/\0 < sz/\r0=List.replicate len (z.cells.toList.map bJ)/\ps=parts.toList.map fun (i,x)=>(i,qo x):=by
 cases op with
 |buildSlice t len parts =>
  simp only[res,kh,gU,dS] at h;split at h
  ·rename_i e he;split at h
   ·rename_i z n hz hs;split at h
    ·rename_i hb;simp only[oI_,ee.rows.injEq] at h;obtain⟨rfl,rfl,rfl⟩:=h;simp only[Bool.and_eq_true] at hb;have hu:P.underlying t=some (.slice e):=by grind[fZ]
     exact⟨_,_,_,_,_,rfl,hu,hz,hs,Nat.le_of_ble_eq_true hb.1.1,Nat.eq_of_beq_eq_true hb.1.2,dM hb.2,rfl,rfl⟩
    ·grind
   all_goals cases h
  ·grind
 |_ =>
  simp only[res] at h
  repeat' split at h
  all_goals cases h
theorem a6.adj {sz:Nat}{r0 rows:List (List AV)}{ps:List (Nat × QO)}(h:sG sz r0 (ps.map fun (i,x)=>(i,x.ev α.tm))=some rows):a6 P w0 B (.rows sz r0 ps) α S (.gr S.nx sz rows.length) ⟨[],[(S.nx,some (.arr sz rows 0 false))],true⟩:=by
 intro n o hr;obtain⟨t,e,len,parts,z,ho,h1,h2,h3,h4,h5,h6,rfl,rfl⟩:=Tp hr;refine⟨fun hp=>(by rw[ho] at hp;cases hp),(show fC S [] from fun p hp=>by grind),fun T _ _ hm=>?_⟩;have e1:T.nx=S.nx:=hm rfl;have e2:dm T [(S.nx,some (.arr sz rows 0 false))] true=T.new (.arr sz rows 0 false):=by
  rw[<-e1];cases T;rfl
 rw[e2,<-e1];refine (Ny ho h1 h2 h3 h4 h5 h6 ?_).ops fun c e=>by grind
 have eo:∀ q ∈ (Op.buildSlice t len parts).operands,(α.only (cG o)).ev q=α.ev q:=fun q hq=>eH fun t ht=>en (by grind);rw[<-h,List.map_map];congr 1;refine List.map_congr_left fun p hp=>?_;simp only[Function.comp,aI];rw[eo p.2 (by simp only[Op.operands];simp;exact⟨p.1,by grind⟩)]
theorem Qc {o:Oper}{sz:Nat}{x hi:QO}{k len h:Nat}{ik:IntKind}{j:Int}{rows:List (List AV)}{ex:Bool}(hr:res P.toTables o.op=some (.slice (.sl sz) x none (some hi) none)) (hx:x.ev α.tm=.gr k sz len) (hk:S.get k=some (.arr sz rows 0 ex)) (hn:len=rows.length) (hj:hi.ev α.tm=.v (.int ik j)) (hh:j=h) (aA:h < len) :
  aQ P w0 n o α S (.gr k sz h) (S.set k (some (.arr sz (rows.take h) 0 false))):=by
 obtain⟨t,u,v,e,ho,rfl,rfl,hu,hs⟩:∃ t u v e,o.op=.slice t u none (some v) none/\x=qo u/\hi=qo v/\P.underlying t=some (.slice e)/\cY P e=some sz:=by
  generalize o.op=op at hr;cases op with
  |slice t u lo hh mx =>
   simp only[res,bE,dS] at hr;split at hr
   ·grind
   ·rename_i e he;split at hr
    ·rename_i m hm;simp only[oI_,ee.slice.injEq,SK.sl.injEq] at hr;obtain⟨rfl,rfl,h1,h2,h3⟩:=hr;cases lo with
     |some _=>cases h1
     |none =>
      cases mx with
      |some _=>cases h3
      |none =>
       cases hh with
       |none=>cases h2
       |some v=>exact⟨t,u,v,e,rfl,rfl,(oJ_ h2).symm,he,hm⟩
    ·grind
   ·grind
  |_ =>
   simp only[res] at hr
   repeat' split at hr
   all_goals cases hr
 rw[aI] at hx hj;intro A g a w hS hA;have h1:=hA.ev u;have h2:=hA.ev v;rw[hx] at h1;rw[hj] at h2;rcases pj h1 with ⟨rfl,_⟩|⟨aK,c,hv,hc,hle⟩
 ·omega
 ·have hb:=kB (P:=P) (isSl:=true) (len:=len) (cap:=c) (w:=w) (lo:=none) (hi:=some v) (l:=0) (h:=j) hA rfl (by grind[j6]) (Int.le_refl _) (by omega) (by omega);have jd:(Instr.slice t (a.eval u) none (some (a.eval v)) none).run P w=.ok (.slice (some ⟨g.ob k,0,none⟩) h c) w:=by
   subst hh;simp only[Option.map_none,Option.map_some] at hb;simp[Instr.slice,hv,run_underlying hu,hb,ct hs,fF]
  have fk:St w0 A g (S.set k (some (.arr sz (rows.take h) 0 false))) w:=by
   refine hS.Eo (Nat.le_refl _) fun i o' hi ha=>?_;have hi:a7 S.get k (some (.arr sz (rows.take h) 0 false)) i=some o':=hi;by_cases e':i=k
   ·subst e';rw[az] at hi;obtain rfl:=oJ_ hi;refine⟨_,hk,fun oQ=>?_,fun J h=>by grind⟩;obtain⟨cs,ty,p1,p2,p3,p4,p5,p6,p7⟩:=oQ;refine⟨cs,ty,p1,p2,by grind,(fun h=>by grind),fun i row hi=>?_,Nat.zero_le _,p7⟩;rw[List.getElem?_take] at hi;split at hi
    ·grind
    ·grind
   ·grind[aD]
  refine⟨_,w,g,.inl ?_,.gr aK hc (by omega),fk,Ext.refl ..⟩;simp only[execOp,ho,Sem.run_bind,Option.map_none,Option.map_some,sP hu (fun _ _ h=>by grind),jd,Result.andThen_ok]
  rfl
theorem af.adk {sz:Nat}{x hi:QO}{k len h:Nat}{ik:IntKind}{j:Int}{rows:List (List AV)}{ex:Bool}(hx:x.ev α.tm=.gr k sz len) (hk:S.get k=some (.arr sz rows 0 ex)) (hn:len=rows.length) (hj:hi.ev α.tm=.v (.int ik j)) (hh:j=h) (aA:h < len) :
  af P w0 false (.slice (.sl sz) x none (some hi) none) α S (.gr k sz h) (S.set k (some (.arr sz (rows.take h) 0 false))):=af.run fun n o hr=>Qc hr hx hk hn hj hh aA
end
theorem E5 {G H:Nat->Option Ob}{k:Nat}:∀ {W:List (Nat × Option Ob)},k ∈ W.map (·.1)->dC G W k=dC H W k
 |[],h=>by grind
 |p::W,h=>by
  by_cases e:k=p.1
  ·subst e;rw[dC,dC,az,az]
  ·rw[dC,dC,aD _ _ e,aD _ _ e];exact E5 ((List.mem_cons.1 h).resolve_left e)
theorem im.sub {ι:Nat->Nat}{M:Nat}{T T':ae}(h:∀ k o,T.get k=some o->k < T.nx->T'.get k=some o) (hM:∀ j,j < M->ι j < T.nx):∀ {l:List (Nat × Ob)},l.all (fun p=>Nat.blt p.1 M)=true->im ι M T l->im ι M T' l
 |[],_,_=>trivial
 |p::l,hk,hc=>by
  rw[List.all_cons,Bool.and_eq_true] at hk;obtain⟨bY,h1,h2⟩:=hc.1;exact⟨⟨bY,h _ _ h1 (hM _ (dM hk.1)),h2⟩,im.sub h hM hk.2 hc.2⟩
section
variable {P:Program}{w0:World}{N N' B n:Nat}{so so':List (Nat × Ob)}{S T:ae}{α:AA}{f:FuncId}{args args₀:List AV}{r r₀:AV}{m:List (Nat × Nat)}{to:List (Nat × Option Ob)}
theorem aC.Vx (h:aC P w0 f args (aq so N) r (aq so' N')) (ha:r6 (aJ m) N args₀ args) (hr:Rb (cT (aJ m) N T.nx) r r₀) (hi:rJ (aJ m) (List.range N)=true) (aA:(List.range N).all (fun j=>Nat.blt (aJ m j) T.nx)=true) (hS:im (aJ m) N T so) (hk:so.all (fun p=>Nat.blt p.1 N)=true)
  (hT:fu (cT (aJ m) N T.nx) so' to) (hc:(List.range N).all (fun j=>(to.map (·.1)).contains (aJ m j))=true) (c_:(List.range N').all (fun j=>(to.map (·.1)).contains (T.nx+j))=true) (hf:vq so'=true) {e:Nat}(he:N'<=e):aC P w0 f args₀ T r₀ ⟨dC T.get to,T.nx+e⟩:=by
 obtain⟨T',zj⟩:∃ T':ae,T'=⟨fun k=>if k < T.nx then T.get k else none,T.nx⟩:=⟨_,rfl⟩;have get':∀ k o,T'.get k=some o->k < T.nx/\T.get k=some o:=fun k o hk=>by
  rw[zj] at hk;have hk:(if k < T.nx then T.get k else none)=some o:=hk;split at hk
  ·grind
  ·grind
 have Bz:T'.nx=T.nx:=by grind
 have tH:∀ k o,T.get k=some o->k < T.nx->T'.get k=some o:=fun k o h hk=>by
  rw[zj];show (if k < T.nx then T.get k else none)=some o;rw[if_pos hk];exact h
 rw[<-Bz] at hr aA hT;have hM:∀ j,j < N->aJ m j < T.nx:=fun j hj=>by
  have:=dM (List.all_eq_true.1 aA j (List.mem_range.2 hj))
  rwa [Bz] at this
 have hF:=Le (N':=N') hi aA (hS.sub tH hM hk) hT hc (by simp) (fun k o hk=>by grind) (.inr hf);have bH:=h.frame hF ha.at.1 (fun i a b h1 h2=>by
  obtain⟨a',h3,h4⟩:=ha.at.2 i b h2;rw[h3] at h1;rw[<-oJ_ h1];exact h4) hr
 refine⟨bH.1,fun F m' A g args' w hF hS hA=>(bH.2 F m' A g args' w hF (hS.forget (by grind) fun j p hj _=>(get' j p hj).2) hA).mono ?_⟩;rintro e' w' ⟨v,g',rfl,h1,h2,h3⟩;refine⟨v,g',rfl,h1,h2.forget (by grind) fun j p hj aK=>?_,h3⟩;have Ew:j < T'.nx+N':=h2.al j aK;have hj:dC T.get to j=some p:=hj;show dC T'.get to j=some p;by_cases iH:j ∈ to.map (·.1)
 ·grind[E5]
 ·rw[l7 iH] at hj ⊢;refine tH j p hj ?_;by_cases h5:j < T.nx
  ·grind
  ·exfalso;refine iH ?_;have:=List.all_eq_true.1 c_ (j - T.nx) (List.mem_range.2 (by omega));rw[show T.nx+(j - T.nx)=j by omega] at this;simpa using this
theorem af.kC {fq:QO}{fM:List QO}(m:List (Nat × Nat)) (to:List (Nat × Option Ob)) (bH:aC P w0 f args (aq so N) r (aq so' N')) (h:dW (fq.ev α.tm) (fM.map (·.ev α.tm))=some (f,args₀)) (ha:r6 (aJ m) N args₀ args) (hr:Rb (cT (aJ m) N T.nx) r r₀) (hS:im (aJ m) N T so) (hT:fu (cT (aJ m) N T.nx) so' to)
  (hi:rJ (aJ m) (List.range N)=true:=by rfl) (aA:(List.range N).all (fun j=>Nat.blt (aJ m j) T.nx)=true:=by rfl) (hk:so.all (fun p=>Nat.blt p.1 N)=true:=by rfl) (hc:(List.range N).all (fun j=>(to.map (·.1)).contains (aJ m j))=true:=by rfl) (c_:(List.range N').all (fun j=>(to.map (·.1)).contains (T.nx+j))=true:=by rfl) (hf:vq so'=true:=by rfl) :
  af P w0 false (.call fq fM) α T r₀ ⟨dC T.get to,T.nx+N'⟩:=af.call h (bH.Vx ha hr hi aA hS hk hT hc c_ hf (Nat.le_refl _)) fun e=>by grind
theorem a6.kC {fq:QO}{fM:List QO}(m:List (Nat × Nat)) (F:List (Nat × Ob)) (to:List (Nat × Option Ob)) (bH:aC P w0 f args (aq so N) r (aq so' N')) (h:dW (fq.ev α.tm) (fM.map (·.ev α.tm))=some (f,args₀)) (ha:r6 (aJ m) N args₀ args) (hr:Rb (cT (aJ m) N S.nx) r r₀) (hF:fC S F) (hS:∀ T,fC T F->im (aJ m) N T so) (hT:fu (cT (aJ m) N S.nx) so' to)
  (hi:rJ (aJ m) (List.range N)=true:=by rfl) (aA:(List.range N).all (fun j=>Nat.blt (aJ m j) S.nx)=true:=by rfl) (hk:so.all (fun p=>Nat.blt p.1 N)=true:=by rfl) (hc:(List.range N).all (fun j=>(to.map (·.1)).contains (aJ m j))=true:=by rfl) (c_:(List.range N').all (fun j=>(to.map (·.1)).contains (S.nx+j))=true:=by rfl) (hf:vq so'=true:=by rfl) (he:Nat.ble N' (Cp to true)=true:=by rfl) :
  a6 P w0 B (.call fq fM) α S r₀ ⟨F,to,true⟩:=by
 intro n o f_;obtain⟨c,u,ho,hu,Ib,has⟩:=kF f_;refine⟨fun hp=>(by grind[oP,m_]),hF,fun T hB Vy hm=>?_⟩;have e:T.nx=S.nx:=hm rfl;have eo:∀ q ∈ (.call c:Op).operands,(α.only (cG o)).ev q=α.ev q:=fun q hq=>eH fun t ht=>en (by grind);have h':dW (fq.ev (α.only (cG o)).tm) (fM.map (·.ev (α.only (cG o)).tm))=some (f,args₀):=by
  rw[<-h,Ib,has,aI,aI,iF,iF,eo u (show u ∈ c.operands by simp[Call.operands,hu])];congr 1;exact List.map_congr_left fun q hq=>eo q (show q ∈ c.operands by simp[Call.operands,hu];exact .inr (by grind))
 rw[<-e] at hr hT aA c_;rw[dT];exact (af.call (dr:=false) h' (bH.Vx ha hr hi aA (hS T Vy) hk hT hc c_ hf (Nat.le_of_ble_eq_true he)) (fun e=>by grind)) n o f_
end
section
variable {P:Program}{w0:World}{rd:Bool}{n:Nat}{Q:Exit->AA->ae->Prop}{α:AA}{S:ae}{l:List QI}{K:List ff}{T:Type}{ρ:Hd}{f:T->AV}{kv:List (Int × T)}
theorem af.I_ {z:AV}{c:Bool}{x i:QO}{k:Nat}{es:List (Value × AV)}{m:Int}(hx:x.ev α.tm=.mp k) (hS:S.get k=some (.mb es)) (hk:lU es) (hi:i.ev α.tm=.v (.int .i64 m)) :
  af P w0 true (.look z c x i) α S (match oy es m with|some a=>(if c then .aG [a,.v (.bool true)] else a)|none=>(if c then .aG [z,.v (.bool false)] else z)) S:=by
 intro n o hr;obtain⟨t,u,v,kt,et,kk,zv,ho,rfl,rfl,h1,h2,h3,rfl⟩:=B6 hr;rw[aI] at hx hi;have e:∀ y ∈ [u,v],(α.only (cG o)).ev y=α.ev y:=fun y hy=>eH fun t ht=>en (by rw[ho];simp[Op.operands,<-ht];simpa using hy);refine⟨(zm ho h1 h2 h3 (by rw[e u (by simp)];exact hx) (fun A g w cZ aK=>?_) hk (by rw[e v (by simp)];exact hi)).ops fun c e=>(by grind),fun hp=>(by rw[ho] at hp;cases hp),fun _=>rfl⟩;obtain⟨_,_,entries,q1,q2,q3,_⟩:=cZ.bT k _ hS aK;exact⟨entries,_,q1,q2,q3⟩
theorem ad.I_ {d:Option Nat}{g:Option (Nat × Bool)}{z:AV}{c:Bool}{x i:QO}{k:Nat}{m:Int}(hw:bm α.tm g=some true) (hx:x.ev α.tm=.mp k) (hS:S.get k=some (.mb (ρ.h (dh f) kv))) (hi:i.ev α.tm=.v (.int .i64 m))
  (k1:∀ v,aB kv m=some v->ad P w0 rd n Q (.aN true l K) (bC d α (if c then .aG [f v,.v (.bool true)] else f v)) S) (k2:aB kv m=none->ad P w0 rd n Q (.aN true l K) (bC d α (if c then .aG [z,.v (.bool false)] else z)) S) :
  ad P w0 rd n Q (.aN true (⟨d,g,.look z c x i⟩::l) K) α S:=by
 have h:=af.I_ (P:=P) (w0:=w0) (z:=z) (c:=c) hx hS (by rw[ρ.eq];exact oV) hi;rw[ρ.eq,uz] at h;refine ad.op (i:=⟨d,g,.look z c x i⟩) hw h ?_;cases hl:aB kv m with
 |some v=>exact k1 v hl
 |none=>exact k2 hl
end
section
variable {ι:Nat->Nat}{M:Nat}
theorem kP.mb {es:List (Value × AV)}(h:∀ e ∈ es,Pure e.2):kP ι M (.mb es) (.mb es):=by
 refine⟨fun g w b cp hr=>?_,fun J h=>by grind⟩;obtain⟨entries,h1,h2,h3,h4⟩:=hr;refine⟨entries,h1,h2,fun i k a ha=>?_,h4⟩;obtain⟨e,he,hk,hr⟩:=h3 i k a ha;exact⟨e,he,hk,Rn.pure (h _ (List.mem_of_getElem? ha)) g w _ hr⟩
theorem lK.mb {es:List (Value × AV)}(h:∀ e ∈ es,Pure e.2):lK ι (.mb es) (.mb es):=by
 refine⟨fun gc g w b cp hB _ hr=>?_,fun J h=>by grind⟩;obtain⟨entries,h1,h2,h3,h4⟩:=hr;refine⟨entries,h1,h2,fun i k a ha=>?_,h4⟩;obtain⟨e,he,hk,hr⟩:=h3 i k a ha;exact⟨e,he,hk,Rb.pure (h _ (List.mem_of_getElem? ha)) gc g w _ hB hr⟩
end
section
variable {P:Program}{w0:World}{rd:Bool}{n:Nat}{Q:Exit->AA->ae->Prop}{α:AA}{S:ae}{l:List QI}{K:List ff}{T:Type}{ρ:Hd}{f:T->List AV}{acc:List T}
theorem af.adl {sz by_ t k len:Nat}{ex ex':Bool}{b:QO}{rows more:List (List AV)}{x:List AV}(ha:α.tm t=.gr k sz len) (hk:S.get k=some (.arr sz rows 0 ex)) (hn:len=rows.length) (iK:∀ c,b.ev (a7 α.tm t c)=b.ev α.tm) (hb:b.ev α.tm=.sl ex' (x::more))
  (h3:∀ row ∈ x::more,row.length=sz/\row.all bO=true) (h4:(len+(x::more).length)*by_<=35184372088832):af P w0 true (.append sz by_ (.t t) b) α S (.gr S.nx sz (len+(x::more).length)) ((S.set k none).new (.arr sz (rows++x::more) 0 false)):=by
 intro n o hr;obtain⟨h5,h6,h7⟩:=a6.lT (P:=P) (w0:=w0) (B:=0) ha hk hn iK hb h3 h4 n o hr;have h8:=h7 S (Nat.zero_le _) h6 (fun _=>rfl);rw[dT] at h8;obtain⟨c,t2,t3,u,v,e,e2,z,ho,hc,_⟩:=my hr;exact⟨h8,fun hp=>(by grind[qy]),fun hw=>(by grind[zL])⟩
theorem ad.iV {dd:Option Nat}{gg:Option (Nat × Bool)}{t:Nat}{b:QO}{sz by_ k len:Nat}{ex ex':Bool}(x:T) (hw:bm α.tm gg=some true) (h1:α.tm t=.gr k sz len) (hk:S.get k=some (.arr sz (ρ.h (List.map f) acc) 0 ex)) (hn:len=acc.length) (iK:∀ c,b.ev (a7 α.tm t c)=b.ev α.tm)
  (hb:b.ev α.tm=.sl ex' [f x]) (hl:(f x).length=sz) (hc:(f x).all bO=true) (hy:(len+1)*by_<=35184372088832)
  (kk:∀ dp eK,dp=acc++[x]->eK=dp.length->ad P w0 rd n Q (.aN true l K) (bC dd α (.gr S.nx sz eK)) ((S.set k none).new (.arr sz (ρ.h (List.map f) dp) 0 false))):ad P w0 rd n Q (.aN true (⟨dd,gg,.append sz by_ (.t t) b⟩::l) K) α S:=by
 have hlen:(ρ.h (List.map f) acc).length=acc.length:=aE;have h:=kk _ _ rfl rfl;have e:ρ.h (List.map f) acc++[f x]=ρ.h (List.map f) (acc++[x]):=by rw[ρ.eq,ρ.eq,List.map_append];rfl
 rw[<-e,show (acc++[x]).length=len+[f x].length by grind] at h;exact ad.op (i:=⟨dd,gg,.append sz by_ (.t t) b⟩) hw (af.adl (x:=f x) (more:=[]) h1 hk (by omega) iK hb (fun row hr=>by grind) (by grind)) h
end
end Go.Proofs.YtbpabjmnhggajaaGreat
