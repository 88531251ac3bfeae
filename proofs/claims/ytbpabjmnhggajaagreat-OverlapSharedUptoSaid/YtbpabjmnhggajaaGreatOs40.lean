import Derived.Test.YtbpabjmnhggajaaGreatOs39
namespace Go.Proofs.YtbpabjmnhggajaaGreat
set_option linter.unusedVariables false
set_option linter.unusedSimpArgs false
open Go.RowKit
section
variable {P:Program}{w0:World}{n B:Nat}{α:AA}{S:ae}{dr:Bool}
theorem zP {o:Oper}{sz by_:Nat}{a b:QO}{ex:Bool}{rows:List (List AV)}(hr:res P.toTables o.op=some (.append sz by_ a b)) (ha:a.ev α.tm=.sl ex rows) (hb:dF S (b.ev α.tm)=some []):aQ P w0 n o α S (.sl ex rows) S:=by
 obtain⟨c,t,t2,u,v,e,e2,z,ho,hc,gG,bj,rfl,rfl,ht,fS,hz,hs,pG,pH,hbl⟩:=my hr;rw[aI] at ha hb;obtain⟨hm,hlen⟩:=dH hb;have gG:c.argTypes=#[t,t2]:=by grind
 have bj:c.args=#[u,v]:=by grind
 have ht:P.underlying t=some (.slice e):=by grind[fZ]
 have fS:P.underlying t2=some (.slice e2):=by grind[fZ]
 refine aQ.quiet fun A g q w hS hA=>?_;have h1:=hA.ev u;have h2:=hA.ev v;rw[ha] at h1;obtain⟨C,c1,e1⟩:=pF (S:=S) hlen hm h2;obtain⟨C',cc',e3,hle,_⟩:=om h1;refine⟨q.eval u,?_,h1⟩;have bZ:(execOp q.eval o).run P w=((Builtin.append_ #[t,t2] o.type #[q.eval u,q.eval v]).run P w).andThen fun v w'=>.ok (.value v) w':=by
  simp[execOp,ho,resolve,hc,gG,bj,invoke,builtin]
 rw[bZ,e1,e3,vE ht fS hs hle]
 rfl
theorem Qg {o:Oper}{sz by_:Nat}{a b:QO}{ex:Bool}{rows:List (List AV)}{A:Option Addr}{cp:Nat}(hr:res P.toTables o.op=some (.append sz by_ a b)) (ha:a.ev α.tm=.sl ex rows) (hb:b.ev α.tm=.v (.slice A 0 cp)):aQ P w0 n o α S (.sl ex rows) S:=by
 obtain⟨c,t,t2,u,v,e,e2,z,ho,hc,gG,bj,rfl,rfl,ht,fS,hz,hs,pG,pH,hbl⟩:=my hr;rw[aI] at ha hb;have gG:c.argTypes=#[t,t2]:=by grind
 have bj:c.args=#[u,v]:=by grind
 have ht:P.underlying t=some (.slice e):=by grind[fZ]
 have fS:P.underlying t2=some (.slice e2):=by grind[fZ]
 refine aQ.quiet fun A g q w hS hA=>?_;have h1:=hA.ev u;have h2:=hA.ev v;rw[ha] at h1;rw[hb] at h2;have e1:=bI h2;obtain⟨C',cc',e3,hle,_⟩:=om h1;refine⟨q.eval u,?_,h1⟩;have bZ:(execOp q.eval o).run P w=((Builtin.append_ #[t,t2] o.type #[q.eval u,q.eval v]).run P w).andThen fun v w'=>.ok (.value v) w':=by
  simp[execOp,ho,resolve,hc,gG,bj,invoke,builtin]
 rw[bZ,e1,e3,vE ht fS hs hle]
 rfl
theorem A3 {o:Oper}{sz by_:Nat}{a b:QO}(hr:res P.toTables o.op=some (.append sz by_ a b)):a.ev (α.only (cG o)).tm=a.ev α.tm/\b.ev (α.only (cG o)).tm=b.ev α.tm/\∀ c,o.op ≠ .defer c:=by
 obtain⟨c,t,t2,u,v,e,e2,z,ho,hc,gG,bj,rfl,rfl,_⟩:=my hr
 have key:∀ q ∈ [u,v],(α.only (cG o)).ev q=α.ev q:=fun q hq=>eH fun t ht=>en (by
  rw[ho,<-ht];have:q ∈ c.args:=Array.mem_toList_iff.1 (by grind);show q ∈ c.operands;simp[Call.operands,this,hc])
 exact⟨by grind[aI],by grind[aI],fun c e=>by grind⟩
theorem af.Nz {sz by_:Nat}{a b:QO}{ex:Bool}{rows:List (List AV)}(ha:a.ev α.tm=.sl ex rows) (hb:dF S (b.ev α.tm)=some []):af P w0 dr (.append sz by_ a b) α S (.sl ex rows) S:=by
 cases dr with
 |false=>exact fun n o hr=>(zP hr ha hb).ops (A3 (α:=α) hr).2.2
 |true =>
  intro n o hr;obtain⟨h1,h2,h3⟩:=A3 (α:=α) hr;exact⟨(zP hr (by grind) (by grind)).ops h3,fun hp=>(by grind[qy]),fun _=>rfl⟩
theorem af.DR {sz by_:Nat}{a b:QO}{ex:Bool}{rows:List (List AV)}{A:Option Addr}{cp:Nat}(ha:a.ev α.tm=.sl ex rows) (hb:b.ev α.tm=.v (.slice A 0 cp)):af P w0 false (.append sz by_ a b) α S (.sl ex rows) S:=fun n o hr=>(Qg hr ha hb).ops (A3 (α:=α) hr).2.2
theorem a6.Nz {sz by_:Nat}{a b:QO}{ex ex':Bool}{rows:List (List AV)}(ha:a.ev α.tm=.sl ex rows) (hb:b.ev α.tm=.sl ex' []):a6 P w0 B (.append sz by_ a b) α S (.sl ex rows) ⟨[],[],false⟩:=by
 intro n o hr;refine⟨fun _=>rfl,(show fC S [] from fun p hp=>by grind),fun T _ _ _=>?_⟩;rw[show dm T [] false=T from cQ];obtain⟨h1,h2,h3⟩:=A3 (α:=α) hr;exact (zP hr (by grind) (by grind[fL])).ops h3
end
def Tw (sz by_:Nat) (s:XS) (a b:AV):Option (AV × Dt):=match b with
 |.sl _ []=>match a with
  |.sl ex rows=>some (.sl ex rows,⟨[],[],false⟩)
  |.ob k sz' 0 len none=>match (eW s).get k with
   |some (.arr gw rows fz ex)=>match Nat.beq gw sz' with
    |true=>some (.ob k sz' 0 len none,⟨[(k,.arr gw rows fz ex)],[],false⟩)
    |false=>none
   |_=>none
  |_=>none
 |.sl _ (x::more)=>match a with
  |.sl true []=>match lA sz (x::more) && Nat.ble ((x::more).length*by_) 35184372088832 with
   |true=>some (.ob s.nx sz 0 (x::more).length none,⟨[],[(s.nx,some (.arr sz (x::more) 0 false))],true⟩)
   |false=>none
  |.ob k sz' 0 len none=>match (eW s).get k with
   |some (.arr gw rows fz ex)=>match Nat.beq gw sz && Nat.beq sz' sz && lA sz (x::more) && tM bO (x::more) && Nat.ble ((len+(x::more).length)*by_) 35184372088832 && Nat.ble fz len && Nat.ble len rows.length with
    |true=>some (.ob s.nx sz 0 (len+(x::more).length) none,⟨[(k,.arr gw rows fz ex)],[(s.nx,some (.arr sz (rows.take len++x::more) fz false)),(k,none)],true⟩)
    |false=>none
   |_=>none
  |_=>none
 |_=>none
section
variable {P:Program}{w0:World}{B:Nat}{s:XS}{r:AV}{J:FJ}
theorem NC {sz by_:Nat}{a b:QO}{f:Nat->AV}{df:List DE}{d:Dt}(h:Tw sz by_ s (a.ev f) (b.ev f)=some (r,d)):a6 P w0 B (.append sz by_ a b) ⟨f,df⟩ (den J s) r d:=by
 unfold Tw at h;split at h
 ·rename_i ex' hb;split at h
  ·rename_i ex rows ha;simp only[oI_,pI_] at h;obtain⟨rfl,rfl⟩:=h;exact a6.Nz ha hb
  ·rename_i k sz' len ha;split at h
   ·rename_i gw rows fz ex hk;split at h
    ·rename_i hs;have hs:=Nat.eq_of_beq_eq_true hs;subst hs;simp only[oI_,pI_] at h;obtain⟨rfl,rfl⟩:=h;exact a6.CQ ha (dB (J:=J) hk).1 hb
    ·grind
   ·grind
  ·grind
 ·rename_i ex' x more hb;split at h
  ·rename_i ha;split at h
   ·rename_i hc;simp only[Bool.and_eq_true] at hc;simp only[oI_,pI_] at h;obtain⟨rfl,rfl⟩:=h;exact a6.Et (S:=den J s) ha hb (gA hc.1) (Nat.le_of_ble_eq_true hc.2)
   ·grind
  ·rename_i k sz' len ha;split at h
   ·rename_i gw rows fz ex hk;split at h
    ·rename_i hc;simp only[Bool.and_eq_true] at hc;obtain⟨⟨⟨⟨⟨⟨h1,h2⟩,h3⟩,h4⟩,h5⟩,h6⟩,h7⟩:=hc;have h1:=Nat.eq_of_beq_eq_true h1;have h2:=Nat.eq_of_beq_eq_true h2;subst h1 h2;simp only[oI_,pI_] at h;obtain⟨rfl,rfl⟩:=h;exact a6.MH (S:=den J s) ha (dB (J:=J) hk).1 hb (Nat.le_of_ble_eq_true h6) (Nat.le_of_ble_eq_true h7) (fun row hr=>⟨gA h3 row hr,List.all_eq_true.2 (l5 h4 row hr)⟩) (Nat.le_of_ble_eq_true h5)
    ·grind
   ·grind
  ·grind
 ·grind
theorem a6.adq {fq:QO}{fM:List QO}{f:Nat->AV}{df:List DE}{g:FuncId}{aZ9:List AV}{S S':ae}{k sz len fz:Nat}{rows:List (List AV)}{ex:Bool}(bH:dW (fq.ev f) (fM.map (·.ev f))=some (g,aZ9)) (hp:dK aZ9) (h:aC P w0 g aZ9 ae.none_ (.ob k sz 0 len none) S')
  (hk:S'.get k=some (.arr sz rows fz ex)) (hr:∀ r ∈ rows,∀ a ∈ r,Pure a):a6 P w0 B (.call fq fM) ⟨f,df⟩ S (.ob S.nx sz 0 len none) ⟨[],[(S.nx,some (.arr sz rows fz ex))],true⟩:=by
 have h1:aC P w0 g aZ9 (aq [] 0) (.ob 0 sz 0 len none) (aq [(0,.arr sz rows fz ex)] 1):=by
  refine aC.canon (B:=0) (N:=1) (m:=[(0,k)]) (S:=ae.none_) (S':=S') h rfl (.new rfl rfl) ⟨.inl ⟨_,hk,.same fun r f_ a ha=>(hr r f_ a ha).aV⟩,trivial⟩ rfl rfl
 have pl:∀ {l:List AV},dK l->r6 (aJ []) 0 l l:=by
  intro l
  induction l with
  |nil=>intro _;trivial
  |cons a l ih=>exact fun h=>⟨Rn.pure h.1,ih h.2⟩
 exact a6.Vb (so':=[(0,.arr sz rows fz ex)]) h1 bH (pl hp) (Rb.ob rfl) ⟨⟨0,_,rfl,rfl,lK.pure hr⟩,trivial⟩ rfl
end
section
set_option maxRecDepth 100000
attribute [local irreducible] ah aC af ad
def adr:FQ 137 Tryz.f137:=a_ Tryz.func137 Tryz.call137
def eN:List Nat:=[0,3,10,31,7,4,1,13,6,24,5,30,32,29,9,71]
theorem Gp:∀ (s:PS) (l:List Tm) (x:Tm),(cO s (l++[x])).1=(bM (cO s l).1 x).1/\(cO s (l++[x])).2=(cO s l).2++[(bM (cO s l).1 x).2]
 |s,[],x=>by grind[cO]
 |s,y::l,x=>by
  simp only[List.cons_append,cO];obtain⟨h1,h2⟩:=Gp (bM s y).1 l x;exact⟨h1,by grind⟩
def oo (i j nl ul:Nat):Ob:=.arr 6 [[.gr i 5 nl,.mp 2,.gr j 1 ul,.mp 4,.mp 5,.mp 6]] 0 true
def gY (ρ:Hd) (i j:Nat) (s:PS) (kn:KN):List (Nat × Ob):=[(0,oo i j s.N.length s.js.up.length),(2,bD ρ s.vs),(4,d_ ρ s.js.sh),(5,bD ρ s.js.ls),(6,ec ρ kn),(i,dY ρ s.N),(j,dZ ρ s.js.up)]
theorem Qh {i j:Nat}{ρ:Hd}{S:ae}{nl ul:Nat}{Nd:bB}{vs sh ls:List (Int × Int)}{up:List Nat}{kn:KN}(h0:S.get 0=some (oo i j nl ul):=by rfl) (h1:S.get i=some (dY ρ Nd):=by rfl) (h2:S.get 2=some (bD ρ vs):=by rfl) (h3:S.get j=some (dZ ρ up):=by rfl)
  (h4:S.get 4=some (d_ ρ sh):=by rfl) (h5:S.get 5=some (bD ρ ls):=by rfl) (h6:S.get 6=some (ec ρ kn):=by rfl):fY 7 [(7,i),(8,j)] 9 S [(0,oo 7 8 nl ul),(2,bD ρ vs),(4,d_ ρ sh),(5,bD ρ ls),(6,ec ρ kn),(7,dY ρ Nd),(8,dZ ρ up)] :=
 ⟨.inl ⟨_,h0,.arr (by exact⟨⟨.iR rfl rfl,.ao (.mp (by decide)),.iR rfl rfl,.ao (.mp (by decide)),.ao (.mp (by decide)),.ao (.mp (by decide)),trivial⟩,trivial⟩)⟩,.inl ⟨_,h2,.same (db _)⟩,.inl ⟨_,h4,.same (iO _)⟩,.inl ⟨_,h5,.same (db _)⟩,.inl ⟨_,h6,.same (iP _)⟩,.inl ⟨_,h1,.same (jv _)⟩,.inl ⟨_,h3,.same (iN _)⟩,trivial⟩
def gZ (ρ:Hd) (i j nl ul:Nat) (N:bB) (vs:List (Int × Int)) (up:List Nat) (sh ls:List (Int × Int)) (kn:KN):List (Nat × Ob):=[(0,oo i j nl ul),(i,dY ρ N),(2,bD ρ vs),(j,dZ ρ up),(4,d_ ρ sh),(5,bD ρ ls),(6,ec ρ kn)]
theorem Qi {ρ:Hd}{i j nl ul:Nat}{N:bB}{vs:List (Int × Int)}{up:List Nat}{sh ls:List (Int × Int)}{kn:KN}{T:ae}(h:fC T (gZ ρ i j nl ul N vs up sh ls kn)):im (aJ [(1,i),(3,j)]) 7 T (gX ρ nl ul N vs up sh ls kn):=by
 have h0:T.get 0=some (oo i j nl ul):=h (0,oo i j nl ul) (by simp[gZ]);have h1:T.get i=some (dY ρ N):=h (i,dY ρ N) (by simp[gZ]);have h2:T.get 2=some (bD ρ vs):=h (2,bD ρ vs) (by simp[gZ]);have h3:T.get j=some (dZ ρ up):=h (j,dZ ρ up) (by simp[gZ]);have h4:T.get 4=some (d_ ρ sh):=h (4,d_ ρ sh) (by simp[gZ]);have h5:T.get 5=some (bD ρ ls):=h (5,bD ρ ls) (by simp[gZ]);have h6:T.get 6=some (ec ρ kn):=h (6,ec ρ kn) (by simp[gZ])
 exact⟨⟨_,h0,.row ⟨.gr rfl rfl,.mp rfl rfl,.gr rfl rfl,.mp rfl rfl,.mp rfl rfl,.mp rfl rfl,trivial⟩⟩,⟨_,h1,.pure (qD _)⟩,⟨_,h2,.mb (eh iA _)⟩,⟨_,h3,.pure (qE _)⟩,
  ⟨_,h4,.mp (eh iA _)⟩,⟨_,h5,.mb (eh iA _)⟩,⟨_,h6,.mp (eh tX _)⟩,trivial⟩
def gW (ρ:Hd) (a i j nl ul:Nat) (N:bB) (vs:List (Int × Int)) (up:List Nat) (sh ls:List (Int × Int)) (kn:KN):List (Nat × Option Ob):=[(0,some (oo (a+7) (a+8) nl ul)),(2,some (bD ρ vs)),(4,some (d_ ρ sh)),(5,some (bD ρ ls)),(6,some (ec ρ kn)),(i,none),(j,none),
 (a,none),(a+1,none),(a+2,none),(a+3,none),(a+4,none),(a+5,none),(a+6,none),(a+7,some (dY ρ N)),(a+8,some (dZ ρ up))]
def Qj (ρ:Hd) (nl ul:Nat) (N:bB) (vs:List (Int × Int)) (up:List Nat) (sh ls:List (Int × Int)) (kn:KN):List (Nat × Ob):=[(0,oo 7 8 nl ul),(2,bD ρ vs),(4,d_ ρ sh),(5,bD ρ ls),(6,ec ρ kn),(7,dY ρ N),(8,dZ ρ up)]
theorem VF {ρ:Hd}{a i j nl ul:Nat}{N:bB}{vs:List (Int × Int)}{up:List Nat}{sh ls:List (Int × Int)}{kn:KN}:fu (cT (aJ [(1,i),(3,j)]) 7 a) (Qj ρ nl ul N vs up sh ls kn) (gW ρ a i j nl ul N vs up sh ls kn) :=
 ⟨⟨0,_,rfl,rfl,.row ⟨.gr rfl,.mp rfl,.gr rfl,.mp rfl,.mp rfl,.mp rfl,trivial⟩⟩,⟨2,_,rfl,rfl,.mb (eh iA _)⟩,⟨4,_,rfl,rfl,.mp (eh iA _)⟩,⟨5,_,rfl,rfl,.mb (eh iA _)⟩,⟨6,_,rfl,rfl,.mp (eh tX _)⟩,
  ⟨7,_,rfl,rfl,.pure (qD _)⟩,⟨8,_,rfl,rfl,.pure (qE _)⟩,trivial⟩
section
variable {P:Program}{w0:World}{rd:Bool}{n B:Nat}{Q:Exit->AA->ae->Prop}{α:AA}{S:ae}{l:List QI}{K:List ff}{T:Type}{ρ:Hd}{f:T->List AV}{acc:List T}{V:List (Nat × Nat)}{lg:List (List Nat × List Nat × Bool)}{rs:List Nat}
theorem ad.A4 {dd:Option Nat}{gg:Option (Nat × Bool)}{t:Nat}{b:QO}{sz by_ k len:Nat}{ex ex':Bool}(x:T) (hw:bm α.tm gg=some true) (h1:α.tm t=.gr k sz len) (hk:S.get k=some (.arr sz (ρ.h (List.map f) acc) 0 ex)) (hn:len=acc.length) (iK:∀ c,b.ev (a7 α.tm t c)=b.ev α.tm)
  (hb:b.ev α.tm=.sl ex' [f x]) (hl:(f x).length=sz) (hc:(f x).all bO=true) (hy:(len+1)*by_<=35184372088832)
  (kk:∀ dp eK,dp=acc++[x]->eK=dp.length->ad P w0 rd n Q (.dN B V (lg++[([k],[S.nx,k],true)]) rs l K) (bC dd α (.gr S.nx sz eK)) (dm S [(S.nx,some (.arr sz (ρ.h (List.map f) dp) 0 false)),(k,none)] true)):ad P w0 rd n Q (.dN B V lg rs (⟨dd,gg,.append sz by_ (.t t) b⟩::l) K) α S:=by
 have hlen:(ρ.h (List.map f) acc).length=acc.length:=aE;have h:=kk _ _ rfl rfl;have e:ρ.h (List.map f) acc++[f x]=ρ.h (List.map f) (acc++[x]):=by rw[ρ.eq,ρ.eq,List.map_append];rfl
 rw[<-e,show (acc++[x]).length=len+[f x].length by grind] at h;exact ad.iJ (i:=⟨dd,gg,.append sz by_ (.t t) b⟩) hw (a6.lT (x:=f x) (more:=[]) h1 hk (by omega) iK hb (fun row hr=>by grind) (by grind)) h
end
def LY (s:PS):Prop:=∀ C:Nat,s.N.length<=C->aB s.js.ls (C:Int)=none
theorem Gq:∀ (l:List Tm) (m:Nat),bP (l.take m)<=bP l
 |[],m=>by simp
 |y::l,0=>by simp[bP]
 |y::l,m+1=>by rw[List.take_succ_cons,bP,bP];have:=Gq l m;omega
theorem zQ:∀ (s:PS) (l:List Tm),(cO s l).2.length=l.length
 |s,[]=>rfl
 |s,x::l=>by rw[cO];simp only[List.length_cons];rw[zQ]
theorem Xj {α:Type}{l:List α}{m:Nat}{y:α}(h:l[m]?=some y):l.take (m+1)=l.take m++[y]:=by rw[List.take_add_one,h];rfl
theorem Qk {l:List Tm}(h:fE l) (m:Nat):fE (l.take m):=EE fun x hx=>h.mem x (List.mem_of_mem_take hx)
theorem LZ:∀ {l:List Tm},(∀ x ∈ l,kz x)->jg l
 |[],_=>by rw[jg];trivial
 |y::l,h=>by rw[jg];exact⟨h y (by simp),LZ fun x hx=>h x (by grind)⟩
theorem Ql {l:List Tm}(h:jg l) (m:Nat):jg (l.take m):=LZ fun x hx=>h.mem x (List.mem_of_mem_take hx)
theorem Cr {s0:PS}{a:List Tm}(hV:nW s0) (hF:LY s0) (hw:fE a) (FP:jg a) (qh:rf s0.N) (m:Nat):nW (cO s0 (a.take m)).1/\LY (cO s0 (a.take m)).1/\rf (cO s0 (a.take m)).1.N/\(cO s0 (a.take m)).1.N.length<=s0.N.length+bP (a.take m):=by
 obtain⟨h1,h2,h3,h4⟩:=Ce s0 (a.take m) hV (Qk hw m);obtain⟨k1,k2⟩:=Cn s0.N (a.take m) qh (Ql FP m);rw[<-h1] at k1 k2;exact⟨h3,fun C hC=>by rw[h4.zc C hC];exact hF C (Nat.le_trans h4.le hC),k1,k2⟩
theorem Jo {s0:PS}{a:List Tm}{m:Nat}{y:Tm}(hV:nW s0) (hF:LY s0) (hw:fE a) (FP:jg a) (qh:rf s0.N) (hy:a[m]?=some y) :
  nW (cO s0 (a.take m)).1/\LY (cO s0 (a.take m)).1/\eE y/\kz y/\rf (cO s0 (a.take m)).1.N/\(cO s0 (a.take m)).1.N.length+dk y<=s0.N.length+bP a/\(cO s0 (a.take (m+1))).1=(bM (cO s0 (a.take m)).1 y).1/\(cO s0 (a.take (m+1))).2=(cO s0 (a.take m)).2++[(bM (cO s0 (a.take m)).1 y).2]:=by
 obtain⟨h1,h2,h3,h4⟩:=Cr hV hF hw FP qh m;have hm:=List.mem_of_getElem? hy;have e:=Xj hy;obtain⟨q1,q2⟩:=Gp s0 (a.take m) y;have q3:=Gq a (m+1);rw[e,S4] at q3;rw[e];exact⟨h1,h2,hw.mem y hm,FP.mem y hm,h3,by omega,q1,q2⟩
theorem gCL {ρ:Hd}{ni uj rj:Nat}{S:ae}{nl ul kl:Nat}{Nd:bB}{vs sh ls:List (Int × Int)}{up rl:List Nat}{kn:KN}{t:Tm}(h0:S.get 0=some (oo ni uj nl ul):=by rfl) (h1:S.get ni=some (dY ρ Nd):=by rfl) (h2:S.get 2=some (bD ρ vs):=by rfl) (h3:S.get uj=some (dZ ρ up):=by rfl)
  (h4:S.get 4=some (d_ ρ sh):=by rfl) (h5:S.get 5=some (bD ρ ls):=by rfl) (h6:S.get 6=some (ec ρ kn):=by rfl) (h7:S.get 7=some (.arr 4 [iL ρ t] 0 true):=by rfl) (h8:S.get 8=some (.arr 5 [[iv t.k,iv t.i,.v (.string t.n),tl ρ t.a,.gr rj 1 kl]] 0 true):=by rfl) (h9:S.get rj=some (.arr 1 (ρ.h (List.map iW) rl) 0 false):=by rfl) :
  fY 9 [(9,ni),(10,uj),(11,rj)] 12 S [(0,oo 9 10 nl ul),(9,dY ρ Nd),(2,bD ρ vs),(10,dZ ρ up),(4,d_ ρ sh),(5,bD ρ ls),(6,ec ρ kn),(7,.arr 4 [iL ρ t] 0 true),(8,.arr 5 [[iv t.k,iv t.i,.v (.string t.n),tl ρ t.a,.gr 11 1 kl]] 0 true),(11,.arr 1 (ρ.h (List.map iW) rl) 0 false)] :=
 ⟨.inl ⟨_,h0,.arr (by exact⟨⟨.iR rfl rfl,.ao (.mp (by decide)),.iR rfl rfl,.ao (.mp (by decide)),.ao (.mp (by decide)),.ao (.mp (by decide)),trivial⟩,trivial⟩)⟩,.inl ⟨_,h1,.same (jv _)⟩,.inl ⟨_,h2,.same (db _)⟩,.inl ⟨_,h3,.same (iN _)⟩,.inl ⟨_,h4,.same (iO _)⟩,.inl ⟨_,h5,.same (db _)⟩,.inl ⟨_,h6,.same (iP _)⟩,
  .inl ⟨_,h7,.same (fun row hr a ha=>by grind[Pure.aV,qn])⟩,.inl ⟨_,h8,.arr (by exact⟨⟨.ao .v,.ao .v,.ao .v,.ao (Pure.aV (aS _)),.iR rfl rfl,trivial⟩,trivial⟩)⟩,.inl ⟨_,h9,.same (iN _)⟩,trivial⟩
theorem zR {ρ:Hd}{i j nl ul:Nat}{N:bB}{vs:List (Int × Int)}{up:List Nat}{sh ls:List (Int × Int)}{kn:KN}{T:ae}(h0:T.get 0=some (oo i j nl ul):=by rfl) (h1:T.get i=some (dY ρ N):=by rfl) (h2:T.get 2=some (bD ρ vs):=by rfl) (h3:T.get j=some (dZ ρ up):=by rfl) (h4:T.get 4=some (d_ ρ sh):=by rfl) (h5:T.get 5=some (bD ρ ls):=by rfl) (h6:T.get 6=some (ec ρ kn):=by rfl):fC T (gZ ρ i j nl ul N vs up sh ls kn):=by
 intro p hp;unfold gZ at hp;simp only[List.mem_cons,List.not_mem_nil,or_false] at hp;rcases hp with rfl|rfl|rfl|rfl|rfl|rfl|rfl<;>assumption
theorem aav {ρ:Hd}{S:ae}{nl ul:Nat}{Nd:bB}{vs sh ls:List (Int × Int)}{up:List Nat}{kn:KN}{t:Tm}(h0:S.get 0=some (oo 1 3 nl ul):=by rfl) (h1:S.get 1=some (dY ρ Nd):=by rfl) (h2:S.get 2=some (bD ρ vs):=by rfl) (h3:S.get 3=some (dZ ρ up):=by rfl)
  (h4:S.get 4=some (d_ ρ sh):=by rfl) (h5:S.get 5=some (bD ρ ls):=by rfl) (h6:S.get 6=some (ec ρ kn):=by rfl) (h7:S.get 7=some (.arr 4 [iL ρ t] 0 true):=by rfl) (h8:S.get 8=some (.arr 5 [[iv t.k,iv t.i,.v (.string t.n),tl ρ t.a,.sl true []]] 0 true):=by rfl) (nY:Nat.ble S.nx 11=true:=by rfl) :
  fY 9 [(9,1),(10,3)] 12 S [(0,oo 9 10 nl ul),(9,dY ρ Nd),(2,bD ρ vs),(10,dZ ρ up),(4,d_ ρ sh),(5,bD ρ ls),(6,ec ρ kn),(7,.arr 4 [iL ρ t] 0 true),(8,.arr 5 [[iv t.k,iv t.i,.v (.string t.n),tl ρ t.a,.gr 11 1 0]] 0 true),(11,.arr 1 (ρ.h (List.map iW) []) 0 false)] :=
 ⟨.inl ⟨_,h0,.arr (by exact⟨⟨.iR rfl rfl,.ao (.mp (by decide)),.iR rfl rfl,.ao (.mp (by decide)),.ao (.mp (by decide)),.ao (.mp (by decide)),trivial⟩,trivial⟩)⟩,.inl ⟨_,h1,.same (jv _)⟩,.inl ⟨_,h2,.same (db _)⟩,.inl ⟨_,h3,.same (iN _)⟩,.inl ⟨_,h4,.same (iO _)⟩,.inl ⟨_,h5,.same (db _)⟩,.inl ⟨_,h6,.same (iP _)⟩,
  .inl ⟨_,h7,.same (fun row hr a ha=>by grind[Pure.aV,qn])⟩,.inl ⟨_,h8,.arr (by exact⟨⟨.ao .v,.ao .v,.ao .v,.ao (Pure.aV (aS _)),.jw,trivial⟩,trivial⟩)⟩,.inr nY,trivial⟩
section
variable {w0:World}{ρ:Hd}
theorem VG (sz:Nat):∀ (s:PS) (t:Tm) (kn:KN),dk t<=sz->nW s->LY s->eE t->kz t->rf s.N->s.N.length+dk t<=100000000000 ->
  aC Tryz.prog w0 137 [.pt 0 6 0 0,tm ρ t] (aq (gS ρ s kn) 7) (iv (bM s t).2) (aq (gY ρ 7 8 (bM s t).1 kn) 9):=by
 induction sz with
 |zero=>intro s t kn h;exfalso;obtain⟨k,i,n,a⟩:=t;rw[dk] at h;omega
 |succ sz ih =>
  rintro⟨N,vs,up,sh,ls⟩ ⟨k,i,n,a⟩ kn bS hV hF hw ha qh hB;rw[kz] at ha;have VH:fE a:=by grind[eE,fE]
  have VI:jg a:=ha.2.2;rw[dk] at bS hB;simp only at hB;obtain⟨s',iG⟩:∃ s',s'=bM ⟨N,vs,up,sh,ls⟩ ⟨k,i,n,a⟩:=⟨_,rfl⟩;rw[<-iG];rw[bM] at iG;obtain⟨nl,fj⟩:∃ nl,nl=N.length:=⟨_,rfl⟩;obtain⟨ul,jX⟩:∃ ul,ul=up.length:=⟨_,rfl⟩;obtain⟨Qm,ND⟩:∃ Qm,Qm=s'.1.N.length:=⟨_,rfl⟩;obtain⟨Qn,rP⟩:∃ Qn,Qn=s'.1.js.up.length:=⟨_,rfl⟩;simp only[gS,gY,<-fj,<-jX,<-ND,<-rP];refine sc 7 9 adr ?_;refine gq eN ?_;refine bq (fun hb=>?_) (fun hb=>?_)<;>(try simp only[bX] at hb)
  ·subst hb;rw[if_pos rfl] at iG;refine gq eN ?_;refine ad.I_ (ρ:=ρ) (f:=iv) (kv:=vs) rfl rfl rfl rfl (fun v hv=>?_) (fun hv=>?_)
   ·rw[hv] at iG;simp only at iG;obtain rfl:=iG;have hv0:((v.toNat:Nat):Int)=v:=by
     have:=hV.vs i;simp only[hv] at this;cases hvn:mC N i with
     |none=>rw[hvn] at this;cases this
     |some j=>rw[hvn] at this;obtain rfl:=oJ_ this;rfl
    simp only at ND rP;rw[hv0];obtain rfl:Qm=nl:=by grind
    obtain rfl:Qn=ul:=by grind
    refine gq eN ?_;refine fq ?_;exact⟨[(7,1),(8,3)],.ao .v,Qh,rfl⟩
   ·rw[hv] at iG;simp only at iG;refine gq eN ?_;obtain⟨k,hk⟩:∃ k:Int,k=1:=⟨_,rfl⟩;refine cF fun q hq=>?_;rw[aE] at hq;refine gq eN ?_
    refine ad.bu (σ:=Int × PS × List Nat × Nat × Nat × Nat) 9 12 [(9,1),(10,3)] (fun p=>[(0,.pt 0 6 0 0),(3,.pt 7 4 0 0),(4,iv 0),(7,.pt 8 5 0 0),(29,tl ρ a),(30,iv q),(31,iv p.1)]) []
     (fun p=>[(0,oo 9 10 p.2.2.2.2.1 p.2.2.2.2.2),(9,dY ρ p.2.1.N),(2,bD ρ p.2.1.vs),(10,dZ ρ p.2.1.js.up),(4,d_ ρ p.2.1.js.sh),(5,bD ρ p.2.1.js.ls),(6,ec ρ kn),(7,.arr 4 [iL ρ ⟨1,i,n,a⟩] 0 true),(8,.arr 5 [[iv 1,iv i,.v (.string n),tl ρ a,.gr 11 1 p.2.2.2.1]] 0 true),(11,.arr 1 (ρ.h (List.map iW) p.2.2.1) 0 false)])
     (fun p=>∃ m:Nat,p.1=m/\m<=a.length/\p.2.1=(cO ⟨N,vs,⟨up,sh,ls⟩⟩ (a.take m)).1/\p.2.2.1=(cO ⟨N,vs,⟨up,sh,ls⟩⟩ (a.take m)).2/\p.2.2.2.1=p.2.2.1.length/\p.2.2.2.2.1=p.2.1.N.length/\p.2.2.2.2.2=p.2.1.js.up.length) (fun p=>a.length - p.1.toNat)
     (0,⟨N,vs,⟨up,sh,ls⟩⟩,[],0,nl,ul) ⟨0,rfl,by simp,by simp[cO],by simp[cO],rfl,fj,jX⟩ rfl (by exact⟨sq,rfl,aav,rfl,rfl,rfl⟩) ?_
    rintro⟨mi,⟨N1,lD,⟨gJ,ky,jW⟩⟩,rl,kl,n1,u1⟩ ⟨m,hm,Jp,lL,jH,uZ,kT,ic⟩;simp only at hm Jp lL jH uZ kT ic;refine gq eN ?_;refine bq (fun b8=>?_) (fun b8=>?_)<;>(try simp only[bX] at b8)
    ·have dG:m < a.length:=by omega
     obtain⟨y,hy⟩:∃ y,a[m]?=some y:=⟨_,List.getElem?_eq_getElem dG⟩;obtain⟨e1,e2,e3,e4,e5,e6,e7,e8⟩:=Jo hV hF VH VI qh hy;rw[<-lL] at e1 e2 e5 e6 e7 e8;rw[<-jH] at e8;simp only at e5 e6;have e9:dk y<=bP a:=nB y (List.mem_of_getElem? hy);have c:=ih _ y kn (by omega) e1 e2 e3 e4 e5 (by grind);obtain⟨⟨⟨N2,u5,⟨m9,q8,q9⟩⟩,r2⟩,hp⟩:∃ p,p=bM ⟨N1,lD,⟨gJ,ky,jW⟩⟩ y:=⟨_,rfl⟩;rw[<-hp] at c e7 e8;obtain⟨n2,jb⟩:∃ n2,n2=N2.length:=⟨_,rfl⟩;obtain⟨u2,jN⟩:∃ u2,u2=m9.length:=⟨_,rfl⟩;rw[<-gE kT ic.symm] at c;have c':aC Tryz.prog w0 137 [.pt 0 6 0 0,tm ρ y] (aq (gX ρ n1 u1 N1 lD gJ ky jW kn) 7) (iv (r2:Nat)) (aq (Qj ρ n2 u2 N2 u5 m9 q8 q9 kn) 9):=by
      rw[jb,jN];exact c
     have ahK:kl<=6:=by grind[zQ]
     clear hp c;refine gq eN ?_;refine ad.op rfl (af.ind rfl rfl (fm (l:=a) hm hy) fp) ?_;refine gq eN ?_;refine ad.iJ rfl (a6.kC [(1,9),(3,10)] (gZ ρ 9 10 n1 u1 N1 lD gJ ky jW kn) (gW ρ 13 9 10 n2 u2 N2 u5 m9 q8 q9 kn) c' rfl ⟨.pt rfl rfl,.pure (aT y),trivial⟩ (.pure .v) zR (fun T hT=>Qi hT) VF) ?_;refine gq eN ?_;refine ad.A4 r2 (f:=iW) rfl rfl rfl uZ (fun _=>rfl) rfl rfl rfl (by omega) (fun rl' kl' ahL Tx=>?_);refine gq eN ?_;refine cz (fun m2 gH=>?_);refine gq eN ?_;refine ad.aO (σ:=Int × PS × List Nat × Nat × Nat × Nat) (m2,⟨N2,u5,⟨m9,q8,q9⟩⟩,rl',kl',n2,u2) [(9,20),(10,21),(11,29)] ⟨m+1,by grind,by omega,e7.symm,by grind,Tx,jb,jN⟩ ?_ (by exact⟨sq,rfl,gCL,rfl,rfl,rfl⟩);simp only;omega
    ·have dG:m=a.length:=by omega
     rw[dG,List.take_of_length_le (Nat.le_refl _)] at lL jH;obtain⟨e1,e2,e5,e6⟩:=Cr hV hF VH VI qh a.length;rw[List.take_of_length_le (Nat.le_refl _),<-lL] at e1 e2 e5 e6;rw[<-lL,<-jH] at iG;simp only at e5 e6 iG;refine gq eN ?_;refine ad.aH ?_;refine gq eN ?_;refine ad.La (Cv.aaj (kb:=8) (k:=11) (j:=4) (m:=kl) rfl rfl (by decide) rfl (by grind[aE])) ?_;refine ad.int rfl (af.pE rfl) fun e he=>?_;subst he;refine gq eN ?_;refine ad.iV ((⟨1,i,n,a⟩:Tm),rl) (f:=r_ ρ) rfl rfl rfl kT (fun _=>rfl) rfl rfl rfl (by omega) (fun N3 n3 hN3 yh=>?_);refine gq eN ?_;have L0:u1=n1:=by rw[ic,kT];exact e1.up
     refine ad.app (x:=n1) (f:=iW) rfl rfl rfl ic (fun _=>rfl) rfl rfl rfl rfl (by omega) (fun DS u3 ahM se=>?_);refine gq eN ?_;refine bq (fun u6=>?_) (fun u6=>?_)<;>(try simp only[bX] at u6)
     rotate_left
     ·grind
     refine gq eN ?_;have Lo:a=[]:=by grind[eE]
     have hvs:lD=vs:=by grind[cO]
     have hv1:aB lD i=none:=by grind
     have qd:aB jW (n1:Int)=none:=by rw[kT];exact e2 _ (Nat.le_refl _)
     refine ad.Vh (ρ:=ρ) (f:=iv) (kv:=lD) (z0:=(0:Int)) rfl rfl rfl rfl rfl hv1 (fun V2 j hV2 hj=>?_);refine gq eN ?_;refine ad.Vi (ρ:=ρ) (f:=iv) (kv:=V2) (v:=(n1:Int)) rfl rfl rfl rfl rfl hV2 hj (fun V3 hV3=>?_);refine gq eN ?_;refine ad.Vh (ρ:=ρ) (f:=iv) (kv:=jW) (z0:=(0:Int)) rfl rfl rfl rfl rfl qd (fun L2 j2 OT fc=>?_);refine gq eN ?_;refine ad.Vi (ρ:=ρ) (f:=iv) (kv:=L2) (v:=i) rfl rfl rfl rfl rfl OT fc (fun L3 hL3=>?_);refine gq eN ?_;refine fq ?_;have qY:s'=(⟨N3,V3,⟨DS,ky,L3⟩⟩,n1):=by grind[gy,uN]
     subst qY;simp only at ND rP;obtain rfl:Qm=n3:=by grind
     obtain rfl:Qn=u3:=by grind
     exact⟨[(7,12),(8,13)],.ao .v,Qh,rfl⟩
  ·rw[if_neg hb] at iG;simp only at iG;refine gq eN ?_;refine cF fun q hq=>?_;rw[aE] at hq;refine gq eN ?_
   refine ad.bu (σ:=Int × PS × List Nat × Nat × Nat × Nat) 9 12 [(9,1),(10,3)] (fun p=>[(0,.pt 0 6 0 0),(3,.pt 7 4 0 0),(4,iv 0),(7,.pt 8 5 0 0),(29,tl ρ a),(30,iv q),(31,iv p.1)]) []
    (fun p=>[(0,oo 9 10 p.2.2.2.2.1 p.2.2.2.2.2),(9,dY ρ p.2.1.N),(2,bD ρ p.2.1.vs),(10,dZ ρ p.2.1.js.up),(4,d_ ρ p.2.1.js.sh),(5,bD ρ p.2.1.js.ls),(6,ec ρ kn),(7,.arr 4 [iL ρ ⟨k,i,n,a⟩] 0 true),(8,.arr 5 [[iv k,iv i,.v (.string n),tl ρ a,.gr 11 1 p.2.2.2.1]] 0 true),(11,.arr 1 (ρ.h (List.map iW) p.2.2.1) 0 false)])
    (fun p=>∃ m:Nat,p.1=m/\m<=a.length/\p.2.1=(cO ⟨N,vs,⟨up,sh,ls⟩⟩ (a.take m)).1/\p.2.2.1=(cO ⟨N,vs,⟨up,sh,ls⟩⟩ (a.take m)).2/\p.2.2.2.1=p.2.2.1.length/\p.2.2.2.2.1=p.2.1.N.length/\p.2.2.2.2.2=p.2.1.js.up.length) (fun p=>a.length - p.1.toNat)
    (0,⟨N,vs,⟨up,sh,ls⟩⟩,[],0,nl,ul) ⟨0,rfl,by simp,by simp[cO],by simp[cO],rfl,fj,jX⟩ rfl (by exact⟨sq,rfl,aav,rfl,rfl,rfl⟩) ?_
   rintro⟨mi,⟨N1,lD,⟨gJ,ky,jW⟩⟩,rl,kl,n1,u1⟩ ⟨m,hm,Jp,lL,jH,uZ,kT,ic⟩;simp only at hm Jp lL jH uZ kT ic;refine gq eN ?_;refine bq (fun b8=>?_) (fun b8=>?_)<;>(try simp only[bX] at b8)
   ·have dG:m < a.length:=by omega
    obtain⟨y,hy⟩:∃ y,a[m]?=some y:=⟨_,List.getElem?_eq_getElem dG⟩;obtain⟨e1,e2,e3,e4,e5,e6,e7,e8⟩:=Jo hV hF VH VI qh hy;rw[<-lL] at e1 e2 e5 e6 e7 e8;rw[<-jH] at e8;simp only at e5 e6;have e9:dk y<=bP a:=nB y (List.mem_of_getElem? hy);have c:=ih _ y kn (by omega) e1 e2 e3 e4 e5 (by grind);obtain⟨⟨⟨N2,u5,⟨m9,q8,q9⟩⟩,r2⟩,hp⟩:∃ p,p=bM ⟨N1,lD,⟨gJ,ky,jW⟩⟩ y:=⟨_,rfl⟩;rw[<-hp] at c e7 e8;obtain⟨n2,jb⟩:∃ n2,n2=N2.length:=⟨_,rfl⟩;obtain⟨u2,jN⟩:∃ u2,u2=m9.length:=⟨_,rfl⟩;rw[<-gE kT ic.symm] at c;have c':aC Tryz.prog w0 137 [.pt 0 6 0 0,tm ρ y] (aq (gX ρ n1 u1 N1 lD gJ ky jW kn) 7) (iv (r2:Nat)) (aq (Qj ρ n2 u2 N2 u5 m9 q8 q9 kn) 9):=by
     rw[jb,jN];exact c
    have ahK:kl<=6:=by grind[zQ]
    clear hp c;refine gq eN ?_;refine ad.op rfl (af.ind rfl rfl (fm (l:=a) hm hy) fp) ?_;refine gq eN ?_;refine ad.iJ rfl (a6.kC [(1,9),(3,10)] (gZ ρ 9 10 n1 u1 N1 lD gJ ky jW kn) (gW ρ 13 9 10 n2 u2 N2 u5 m9 q8 q9 kn) c' rfl ⟨.pt rfl rfl,.pure (aT y),trivial⟩ (.pure .v) zR (fun T hT=>Qi hT) VF) ?_;refine gq eN ?_;refine ad.A4 r2 (f:=iW) rfl rfl rfl uZ (fun _=>rfl) rfl rfl rfl (by omega) (fun rl' kl' ahL Tx=>?_);refine gq eN ?_;refine cz (fun m2 gH=>?_);refine gq eN ?_;refine ad.aO (σ:=Int × PS × List Nat × Nat × Nat × Nat) (m2,⟨N2,u5,⟨m9,q8,q9⟩⟩,rl',kl',n2,u2) [(9,20),(10,21),(11,29)] ⟨m+1,by grind,by omega,e7.symm,by grind,Tx,jb,jN⟩ ?_ (by exact⟨sq,rfl,gCL,rfl,rfl,rfl⟩);simp only;omega
   ·have dG:m=a.length:=by omega
    rw[dG,List.take_of_length_le (Nat.le_refl _)] at lL jH;obtain⟨e1,e2,e5,e6⟩:=Cr hV hF VH VI qh a.length;rw[List.take_of_length_le (Nat.le_refl _),<-lL] at e1 e2 e5 e6;rw[<-lL,<-jH] at iG;simp only at e5 e6 iG;refine gq eN ?_;refine ad.aH ?_;refine gq eN ?_;refine ad.La (Cv.aaj (kb:=8) (k:=11) (j:=4) (m:=kl) rfl rfl (by decide) rfl (by grind[aE])) ?_;refine ad.int rfl (af.pE rfl) fun e he=>?_;subst he;refine gq eN ?_;refine ad.iV ((⟨k,i,n,a⟩:Tm),rl) (f:=r_ ρ) rfl rfl rfl kT (fun _=>rfl) rfl rfl rfl (by omega) (fun N3 n3 hN3 yh=>?_);refine gq eN ?_;have L0:u1=n1:=by rw[ic,kT];exact e1.up
    refine ad.app (x:=n1) (f:=iW) rfl rfl rfl ic (fun _=>rfl) rfl rfl rfl rfl (by omega) (fun DS u3 ahM se=>?_);refine gq eN ?_;refine bq (fun u6=>?_) (fun u6=>?_)<;>(try simp only[bX] at u6)
    ·grind
    refine gq eN ?_;refine ad.j7 (ρ:=ρ) (f:=iv) (kv:=ky) (v:=(n1:Int)) rfl rfl rfl rfl rfl (fun SH3 amj=>?_);refine gq eN ?_;refine fq ?_;have qY:s'=(⟨N3,lD,⟨DS,SH3,jW⟩⟩,n1):=by grind[gy]
    subst qY;simp only at ND rP;obtain rfl:Qm=n3:=by grind
    obtain rfl:Qn=u3:=by grind
    exact⟨[(7,12),(8,13)],.ao .v,Qh,rfl⟩
end
end
section
set_option maxRecDepth 100000
attribute [local irreducible] ah aC af ad
def ads:FQ 135 Tryz.f135:=a_ Tryz.func135 Tryz.call135
def Jq:List Nat:=[0]
section
variable {w0:World}{ρ:Hd}
theorem NF:aC Tryz.prog w0 135 [] (aq [] 0) (.pt 0 6 0 0) (aq (gS ρ ⟨[],[],⟨[],[],[]⟩⟩ []) 7):=by
 refine sc 0 7 ads ?_;refine gq Jq ?_;refine ad.Dn ρ iv rfl (fun k1 h1=>?_);refine gq Jq ?_;refine ad.gj ρ iv rfl (fun k2 h2=>?_);refine gq Jq ?_;refine ad.Dn ρ iv rfl (fun k3 h3=>?_);refine gq Jq ?_;refine ad.gj ρ BL rfl (fun k4 h4=>?_);refine gq Jq ?_;refine fq ?_;subst h1 h2 h3 h4;exact⟨[(0,4),(1,5),(2,0),(3,6),(4,1),(5,2),(6,3)],.mS rfl rfl,⟨.inl ⟨_,rfl,.arr (by exact⟨⟨.jw,.qm rfl rfl,.jw,.qm rfl rfl,.qm rfl rfl,.qm rfl rfl,trivial⟩,trivial⟩)⟩,.inr rfl,.inl ⟨_,rfl,.same (db _)⟩,.inr rfl,.inl ⟨_,rfl,.same (iO _)⟩,.inl ⟨_,rfl,.same (db _)⟩,.inl ⟨_,rfl,.same (iP _)⟩,trivial⟩,rfl⟩
end
structure GI (s:PS):Prop where
 V:nW s
 F:LY s
 A:rf s.N
 G:jT s.N
theorem GI.add {s:PS}{t:Tm}(h:GI s) (hw:eE t) (ha:kz t):GI (bM s t).1/\(bM s t).1.N.length<=s.N.length+dk t:=by
 obtain⟨h1,h2,h3,h4⟩:=oZ s t h.V hw;obtain⟨k1,k2⟩:=AX s.N t h.A ha;obtain⟨x1,_,_⟩:=AN s.N t h.G hw;rw[<-h1] at k1 k2 x1;exact⟨⟨h3,fun C hC=>by rw[h4.zc C hC];exact h.F C (Nat.le_trans h4.le hC),k1,x1.g⟩,k2⟩
theorem DT {ls:List (Int × Int)}{a b L:Nat}(ha:a < L) (h:∀ C:Nat,L<=C->aB ls (C:Int)=none):∀ C:Nat,L<=C->aB (iZ ls a b) (C:Int)=none:=by
 intro C hC;have key:∀ v,aB (fl ls (a:Int) v) (C:Int)=none:=fun v=>by grind[cd]
 unfold iZ;split
 ·grind
 ·grind
theorem u7 {N:bB}:∀ {m:Nat}{ps:List (Nat × Nat)}{s s':JS}{b:Bool},fO N m ps s=some (b,s')->∀ {L:Nat},s.up.length=L->(∀ C:Nat,L<=C->aB s.ls (C:Int)=none)->∀ C:Nat,L<=C->aB s'.ls (C:Int)=none
 |0,_,_,_,_,h,_,_,_=>by cases h
 |m+1,ps,s,s',b,h,L,hL,hf=>by
  rw[fO] at h;split at h
  ·grind
  ·split at h
   ·grind
   ·split at h
    ·grind
    ·rename_i u1 a h1;split at h
     ·grind
     ·rename_i u2 b2 h2;have e1:=gK h1;have e2:=gK h2;have ea:a < L:=by have:=Jd h1;omega
      split at h
      ·exact u7 h (by grind) hf
      ·split at h
       ·split at h
        ·split at h
         ·split at h
          ·split at h
           ·exact u7 h (by grind) (DT ea hf)
           ·grind
          ·grind
         ·grind
        ·grind
       ·exact u7 h (by grind) (DT ea hf)
theorem GI.join {s:PS}{m:Nat}{ps:List (Nat × Nat)}{j:JS}{b:Bool}(h:GI s) (hj:fO s.N m ps s.js=some (b,j)):GI ⟨s.N,s.vs,j⟩ :=
 ⟨⟨h.V.vs,by rw[o6 hj];exact h.V.up,h.V.nd⟩,fun C hC=>u7 hj h.V.up h.F C hC,h.A,h.G⟩
theorem GI.nil:GI ⟨[],[],⟨[],[],[]⟩⟩:=⟨⟨fun v=>rfl,rfl,List.nodup_nil⟩,fun C _=>rfl,fun i hi=>(by grind),Gc⟩
end
section
variable {P:Program}{w0:World}{α:AA}{S:ae}
theorem Qo {v:Value}(h:lift v=.v .nilFunc):v=.nilFunc:=by
 have h1:∀ v,bJ v=.v .nilFunc->v=.nilFunc:=by
  intro v h;unfold bJ at h;split at h
  ·grind
  ·grind
 cases v with
 |agg cs=>cases h
 |_=>exact h1 _ h
theorem Xk {u:Operand}(h:.c (.v .nilFunc)=qo u):u=.const .nilFunc:=by
 cases u with
 |const v =>
  injection h with h;rw[Qo h.symm]
 |_=>cases h
theorem Jr {o:Op}{op:BinOp}{x:QO}(h:res P.toTables o=some (.bin op .f x (.c (.v .nilFunc)))):∃ t u s a b c,o=.binOp op t u (.const .nilFunc) s/\x=qo u/\P.underlying t=some (.func a b c):=by
 cases o with
 |binOp UN t u v s =>
  simp only[res,bE] at h;split at h
  ·grind
  ·grind
  ·rename_i a b c hu;simp only[oI_,ee.bin.injEq] at h;obtain⟨rfl,_,rfl,h4⟩:=h;rw[Xk h4.symm];exact⟨_,_,_,_,_,_,rfl,rfl,hu⟩
  ·grind
  ·grind
  ·grind
 |_ =>
  simp only[res] at h
  repeat' split at h
  all_goals cases h
def E7:AV->Option Bool
 |.fn ..=>some false
 |.v (.func ..)=>some false
 |.v .nilFunc=>some true
 |_=>none
theorem Ty {g:Gh}{w:World}{a:AV}{x:Value}{b:Bool}(h:E7 a=some b) (hr:aF g w a x):(b=true/\x=.nilFunc)\/(b=false/\∃ f p q,x=.func f p q):=by
 unfold E7 at h;split at h
 ·cases hr with
  |fn=>obtain rfl:=oJ_ h;exact .inr ⟨rfl,_,_,_,rfl⟩
 ·cases hr with
  |v=>obtain rfl:=oJ_ h;exact .inr ⟨rfl,_,_,_,rfl⟩
 ·cases hr with
  |v=>obtain rfl:=oJ_ h;exact .inl ⟨rfl,rfl⟩
 ·grind
theorem pV (w:World) (d:Nat) {t:TypeId}{a b c}(h:P.underlying t=some (.func a b c)):(Op.equalIn (d+1) t .nilFunc .nilFunc).run P w=.ok true w/\∀ f p q,(Op.equalIn (d+1) t (.func f p q) .nilFunc).run P w=.ok false w:=by
 refine⟨?_,fun f p q=>?_⟩<;>simp[Op.equalIn,run_underlying h]
theorem zS (w:World) {t:TypeId}{a b c}(h:P.underlying t=some (.func a b c)) (x:Value):(x=.nilFunc->(Op.equal t x .nilFunc).run P w=.ok true w)/\∀ f p q,x=.func f p q->(Op.equal t x .nilFunc).run P w=.ok false w :=
 ⟨fun e=>by subst e;exact (pV w 9999 h).1,fun f p q e=>by subst e;exact (pV w 9999 h).2 f p q⟩
theorem Js {op:BinOp}{x:QO}{b d:Bool}{n:Nat}{o:Oper}(hr:res P.toTables o.op=some (.bin op .f x (.c (.v .nilFunc)))) (β:AA) (hx:E7 (x.ev β.tm)=some b) (hd:zk op b=some d):ez P w0 n o β S (.v (.bool d)) S:=by
 obtain⟨t,u,s,e1,e2,e3,ho,rfl,hu⟩:=Jr hr;rw[aI] at hx;refine aQ.ops (aQ.quiet fun A g c w hS hA=>⟨.bool d,?_,.v⟩) fun c e=>by grind
 have h2:c.eval (.const .nilFunc)=.nilFunc:=rfl;have hq:=zS w hu (c.eval u);rcases Ty hx (hA.ev u) with ⟨rfl,h1⟩|⟨rfl,f,p,q,h1⟩
 ·have hq:=hq.1 h1;rw[h1] at hq;cases op<;>cases hd<;>simp[execOp,ho,h1,eqGuard,h2,binOp,hq]
 ·have hq:=hq.2 f p q h1;rw[h1] at hq;cases op<;>cases hd<;>simp[execOp,ho,h1,eqGuard,h2,binOp,hq]
theorem af.Jt {dr:Bool}{op:BinOp}{x:QO}{b d:Bool}(hx:E7 (x.ev α.tm)=some b) (hd:zk op b=some d):af P w0 dr (.bin op .f x (.c (.v .nilFunc))) α S (.v (.bool d)) S:=by
 cases dr with
 |false=>exact fun n o hr=>Js hr α hx hd
 |true =>
  intro n o hr;obtain⟨t,u,s,_,_,_,ho,hu,_⟩:=Jr hr;have key:∀ z ∈ o.op.operands,(α.only (cG o)).ev z=α.ev z:=fun z hz=>eH fun t e=>en (by grind);have h1:(α.only (cG o)).ev u=α.ev u:=key u (by rw[ho];simp[Op.operands]);have h3:∀ T,ez P w0 n o (α.only (cG o)) T (.v (.bool d)) T:=fun T=>Js hr _ (by grind[aI]) hd;exact⟨h3 S,fun _=>⟨rfl,h3⟩,fun _=>rfl⟩
end
end Go.Proofs.YtbpabjmnhggajaaGreat
