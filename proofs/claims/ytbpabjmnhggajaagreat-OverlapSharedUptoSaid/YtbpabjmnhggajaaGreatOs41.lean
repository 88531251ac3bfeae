import Derived.Test.YtbpabjmnhggajaaGreatOs40
namespace Go.Proofs.YtbpabjmnhggajaaGreat
set_option linter.unusedVariables false
set_option linter.unusedSimpArgs false
open Go.RowKit
section
variable {P:Program}{w0:World}{n:Nat}{o:Oper}{α:AA}{S S':ae}{r:AV}
theorem af.ahN {m k sz off len:Nat}{x:QO}{lo hi:Option QO}{l h:Int}{rows:List (List AV)}{fz:Nat}{ex:Bool}(hx:x.ev α.tm=.ob k sz off len none) (hk:S.get k=some (.arr sz rows fz ex)) (hm:m=sz) (hl:mU α.tm lo 0=some l) (hh:mU α.tm hi len=some h) (h0:0<=l) (h1:l < h) (h2:off+h<=rows.length) :
  af P w0 false (.slice (.sl m) x lo hi none) α S (.ob k sz (off+l.toNat) (h.toNat - l.toNat) none) S:=af.run fun n o hr=>by
 obtain⟨t,u,l1,i1,m1,ho,rfl,rfl,rfl,dG,⟨hs,_⟩|⟨e,m',hs,hu,hz⟩⟩:=E0 hr
 ·grind
 ·injection hs with hs;subst hs hm;have dG:m1=none:=by cases m1 with|none=>rfl|some _=>cases dG
  subst dG;rw[aI] at hx;refine aQ.quiet fun A g q w hS hA=>?_;have hx:=hA.ev u;rw[show α.ev u=_ from ‹α.ev u=_›] at hx;obtain⟨c,e1,aK,hc,hp,i_,hle⟩:=iy hx;obtain⟨_,_,cs,ty,p1,p2,p3,_⟩:=hS.bT k _ hk aK;have Yt:=i_ rfl;have hb:=kB (P:=P) (isSl:=true) (len:=len) (cap:=c) (w:=w) hA (AE hl) (AE hh) h0 (by omega) (by omega);have bU:¬ c=l.toNat:=by omega
  have jd:(Instr.slice t (q.eval u) (l1.map q.eval) (i1.map q.eval) (Option.map q.eval none)).run P w=.ok (.slice (some ⟨g.ob k,(off+l.toNat)*m,none⟩) (h.toNat - l.toNat) (c - l.toNat)) w:=by
   simp[Instr.slice,e1,run_underlying hu,hb,ct hz,bU,fF,Nat.add_mul]
  have NG:(execOp q.eval o).run P w=.ok (.value (.slice (some ⟨g.ob k,(off+l.toNat)*m,none⟩) (h.toNat - l.toNat) (c - l.toNat))) w:=by
   simp only[execOp,ho,Sem.run_bind,sP hu (fun k e h=>by grind),jd,Result.andThen_ok]
   rfl
  exact⟨_,NG,.ob aK (fun m hm=>by grind) (by omega) (fun _=>by omega) (by omega)⟩
theorem NH {z:List AV}{a:QO}{o:Op}(h:res P.toTables o=some (.wj z a)):∃ c t u e zv,o=.call c/\c.callee=.builtin .clear/\c.argTypes=#[t]/\c.args=#[u]/\a=qo u/\P.underlying t=some (.slice e)/\de P e=some zv/\z=zv.cells.toList.map bJ:=by
 cases o<;>simp only[res,bE,gU] at h<;>(repeat' split at h)<;>(try cases h)
 exact⟨_,_,_,_,_,rfl,by grind,toList_one (by assumption),toList_one (by grind),rfl,by assumption,by grind,rfl⟩
theorem af.aay {z:List AV}{x:QO}{k sz off len fz:Nat}{cx:Option Nat}{rows:List (List AV)}{ex:Bool}(hx:x.ev α.tm=.ob k sz off len cx) (hk:S.get k=some (.arr sz rows fz ex)) (hz:z.length=sz) (lS:g_ bO z=true) (hp:off+len<=rows.length) (hf:fz<=off) (h0:0 < len) :
  af P w0 false (.wj z x) α S (.aG []) (S.set k (some (.arr sz (rows.take off++List.replicate len z++rows.drop (off+len)) fz ex))):=af.run fun n o hr=>by
 obtain⟨c,t,u,e,zv,ho,hc,gG,bj,rfl,hu,hzv,rfl⟩:=NH hr;rw[aI] at hx;intro A g q w hS hA;have h1:=hA.ev u;rw[hx] at h1;obtain⟨cc,e1,aK,_,_,_,hle⟩:=iy h1;obtain⟨k2,k3,cs,ty,p1,p2,p3,p4,p5,p6,p7⟩:=hS.bT k _ hk aK;have pH:zv.cells.size=sz:=by grind
 obtain⟨news,sJ⟩:∃ news,news=(Builtin.zeroCells zv.cells len).toList:=⟨_,rfl⟩;have fj:news.length=(List.replicate len (zv.cells.toList.map bJ)).length*sz:=by rw[sJ,Array.length_toList,size_zeroCells,List.length_replicate,pH]
 have m7:∀ i j,i < len->j < sz->∀ v,zv.cells[j]?=some v->news[i*sz+j]?=some v:=by
  intro i j hi hj v hv;have aA:i*sz+j < len*sz:=mf hi hj;have e1:(i*sz+j) % zv.cells.size=j:=by
   rw[pH,Nat.mul_comm,Nat.mul_add_mod];exact Nat.mod_eq_of_lt hj
  rw[sJ,Array.getElem?_toList];unfold Builtin.zeroCells;rw[Array.getElem?_map,Array.getElem?_range,if_pos (by grind)];simp only[Option.map_some,e1];rw[getElem!_pos zv.cells j (by omega),<-hv,Array.getElem?_eq_getElem (by omega)]
 obtain⟨hE,cZ⟩:=hS.EO (p:=off) (more:=List.replicate len (zv.cells.toList.map bJ)) (news:=news) hk aK p1 (fun r hr=>by grind) fj (fun i row j a hi ha=>by grind[lM]) (by grind) hf;rw[List.length_replicate] at cZ;have ahO:∀ v ∈ news,v.oneCell'=true:=by
  intro v hv;rw[sJ] at hv;have hv:=Array.mem_toList_iff.1 hv;unfold Builtin.zeroCells at hv;obtain⟨i,hi,rfl⟩:=Array.mem_map.1 hv;have jV:=Array.mem_range.1 hi;have bS:0 < zv.cells.size:=by grind
  have hj:i % zv.cells.size < zv.cells.size:=Nat.mod_lt _ bS;rw[getElem!_pos zv.cells _ hj];have hm:bJ zv.cells[i % zv.cells.size] ∈ zv.cells.toList.map bJ:=List.mem_map.2 ⟨_,Array.mem_toList_iff.2 (Array.getElem_mem hj),rfl⟩;exact sH (g:=g) (w:=w) (eu lS _ hm) (lM _)
 have j9:off*sz+0+news.length<=cs.size:=by
  rw[fj,List.length_replicate,p2,Nat.add_zero,<-Nat.add_mul];exact Nat.mul_le_mul_right sz (by omega)
 have mj:=run_storeCells_at (P:=P) (g.ob k) (off*sz) ty news 0 cs w p1 j9 ahO;rw[Nat.add_zero] at mj;refine⟨.tuple #[],_,g,.inl ?_,.aG rfl (fun i a x h=>by grind),cZ,hE⟩;have bZ:(execOp q.eval o).run P w=((Builtin.clear_ #[t] o.type #[q.eval u]).run P w).andThen fun v w'=>.ok (.value v) w':=by
  simp[execOp,ho,resolve,hc,gG,bj,invoke,builtin]
 rw[bZ,e1];obtain⟨eK,rfl⟩:∃ l,len=l+1:=⟨len - 1,by omega⟩;rw[sJ] at mj;simp[Builtin.clear_,run_underlying hu,lN hzv,mj,sJ]
end
def Ju (q:ee) (f:Nat->AV) (s:XS):Option (AV × XS):=match q with
 |.iI z by_ l c=>match l.ev f,c.ev f with
  |.v (.int _ i),.v (.int _ j)=>match decide (0<=i/\i < j/\j*by_<=35184372088832/\j<=9223372036854775807) && !eB s.yk s.nx with
   |true=>some (.ob s.nx z.length 0 i.toNat none,mo s (.arr z.length (List.replicate j.toNat z) 0 true))
   |false=>none
  |_,_=>none
 |.slice (.sl m) x lo hi none=>match x.ev f with
  |.ob k sz off len none=>match (eW s).get k,mU f lo 0,mU f hi len with
   |some (.arr sz' rows _ _),some l,some h=>match Nat.beq sz' sz && Nat.beq m sz && decide (0<=l/\l < h/\(len:Int) < h/\off+h<=rows.length) with
    |true=>some (.ob k sz (off+l.toNat) (h.toNat - l.toNat) none,s)
    |false=>none
   |_,_,_=>none
  |_=>none
 |.wj z x=>match x.ev f with
  |.ob k sz off len _=>match (eW s).get k with
   |some (.arr sz' rows fz ex)=>match Nat.beq sz' sz && Nat.beq z.length sz && g_ bO z && Nat.ble (off+len) rows.length && Nat.ble fz off && Nat.blt 0 len with
    |true=>some (.aG [],lP s k (some (.arr sz (rows.take off++List.replicate len z++rows.drop (off+len)) fz ex)))
    |false=>none
   |_=>none
  |_=>none
 |.append sz by_ a b=>match a.ev f with
  |.ob k sz' 0 len none=>match (eW s).get k,dF (eW s) (b.ev f) with
   |some (.arr gw rows fz ex),some (x::more)=>match Nat.beq gw sz && Nat.beq sz' sz && Nat.ble (len+(x::more).length) rows.length && Nat.ble fz len && lA sz (x::more) && tM bO (x::more) with
    |true=>some (.ob k sz 0 (len+(x::more).length) none,lP s k (some (.arr sz (rows.take len++(x::more)++rows.drop (len+(x::more).length)) fz ex)))
    |false=>none
   |_,_=>none
  |_=>none
 |.copy sz a b=>match a.ev f with
  |.ob k sz' off len _=>match dF (eW s) (b.ev f) with
   |some []=>some (.v (.int .i64 0),s)
   |some (x::more)=>match (eW s).get k with
    |some (.arr gw rows fz ex)=>match Nat.beq gw sz && Nat.beq sz' sz && Nat.ble (x::more).length len && Nat.ble (off+len) rows.length && Nat.ble fz off && lA sz (x::more) && tM bO (x::more) with
     |true=>some (.v (.int .i64 (x::more).length),lP s k (some (.arr sz (rows.take off++(x::more)++rows.drop (off+(x::more).length)) fz ex)))
     |false=>none
    |_=>none
   |none=>none
  |_=>none
 |_=>none
section
variable {P:Program}{w0:World}{s s':XS}{r:AV}
theorem Qp {q:ee}{f:Nat->AV}{df:List DE}(h:Ju q f s=some (r,s')):(∀ J,af P w0 false q ⟨f,df⟩ (den J s) r (den J s'))/\eC s s'/\s'.lg=s.lg:=by
 cases q with
 |iI z by_ l c =>
  simp only[Ju] at h;split at h
  ·rename_i k1 i k2 j hl hc;split at h
   ·rename_i hd;simp only[Bool.and_eq_true,Bool.not_eq_true'] at hd;have eQ:=of_decide_eq_true hd.1;simp only[oI_,pI_] at h;obtain⟨rfl,rfl⟩:=h;refine⟨fun J=>?_,.nw,rfl⟩;rw[jK hd.2];exact af.Zu hl hc eQ.1 (by omega) eQ.2.2.1 eQ.2.2.2
   ·grind
  ·grind
 |slice k x lo hi mx =>
  cases k with
  |str=>cases h
  |sl m =>
   cases mx with
   |some mx=>cases h
   |none =>
    simp only[Ju] at h;split at h
    ·rename_i k sz off len hx;split at h
     ·rename_i sz' rows fz ex l hh hk hl wo;split at h
      ·rename_i hc;simp only[Bool.and_eq_true] at hc;obtain⟨⟨h1,h2⟩,h3⟩:=hc;have h1:=Nat.eq_of_beq_eq_true h1;have h2:=Nat.eq_of_beq_eq_true h2;have h3:=of_decide_eq_true h3;subst h1;simp only[oI_,pI_] at h;obtain⟨rfl,rfl⟩:=h;exact⟨fun J=>af.ahN hx (dB (J:=J) hk).1 h2 hl wo h3.1 h3.2.1 (by omega),.refl _,rfl⟩
      ·grind
     ·grind
    ·grind
 |wj z x =>
  simp only[Ju] at h;split at h
  ·rename_i k sz off len cx hx;split at h
   ·rename_i sz' rows fz ex hk;split at h
    ·rename_i hc;simp only[Bool.and_eq_true] at hc;obtain⟨⟨⟨⟨⟨h1,h2⟩,h3⟩,h4⟩,h5⟩,h6⟩:=hc;have h1:=Nat.eq_of_beq_eq_true h1;subst h1;simp only[oI_,pI_] at h;obtain⟨rfl,rfl⟩:=h;refine⟨fun J=>?_,.wr,rfl⟩;obtain⟨dV,dP⟩:=dB (J:=J) hk;rw[jJ dP];exact af.aay hx dV (Nat.eq_of_beq_eq_true h2) h3 (Nat.le_of_ble_eq_true h4) (Nat.le_of_ble_eq_true h5) (dM h6)
    ·grind
   ·grind
  ·grind
 |append sz by_ a b =>
  simp only[Ju] at h;split at h
  ·rename_i k sz' len ha;split at h
   ·rename_i gw rows fz ex x more hk hm;split at h
    ·rename_i hc;simp only[Bool.and_eq_true] at hc;obtain⟨⟨⟨⟨⟨h1,h2⟩,h3⟩,h4⟩,h5⟩,h6⟩:=hc;have h1:=Nat.eq_of_beq_eq_true h1;have h2:=Nat.eq_of_beq_eq_true h2;subst h1 h2;simp only[oI_,pI_] at h;obtain⟨rfl,rfl⟩:=h;refine⟨fun J=>?_,.wr,rfl⟩;obtain⟨dV,dP⟩:=dB (J:=J) hk;rw[jJ dP];exact af.Zv ha dV (jh hm) (Nat.le_of_ble_eq_true h4) (Nat.le_of_ble_eq_true h3) (fun row hr=>⟨gA h5 row hr,List.all_eq_true.2 (l5 h6 row hr)⟩)
    ·grind
   ·grind
  ·grind
 |copy sz a b =>
  simp only[Ju] at h;split at h
  ·rename_i k sz' off len cx ha;split at h
   ·rename_i hm;simp only[oI_,pI_] at h;obtain⟨rfl,rfl⟩:=h;exact⟨fun J=>af.ahg ha (jh hm),.refl _,rfl⟩
   ·rename_i x more hm;split at h
    ·rename_i gw rows fz ex hk;split at h
     ·rename_i hc;simp only[Bool.and_eq_true] at hc;obtain⟨⟨⟨⟨⟨⟨h1,h2⟩,h3⟩,h4⟩,h5⟩,h6⟩,h7⟩:=hc;have h1:=Nat.eq_of_beq_eq_true h1;have h2:=Nat.eq_of_beq_eq_true h2;subst h1 h2;simp only[oI_,pI_] at h;obtain⟨rfl,rfl⟩:=h;refine⟨fun J=>?_,.wr,rfl⟩;obtain⟨dV,dP⟩:=dB (J:=J) hk;rw[jJ dP];exact af.cpy ha dV (jh hm) (Nat.le_of_ble_eq_true h3) (Nat.le_of_ble_eq_true h4) (Nat.le_of_ble_eq_true h5) (fun row hr=>⟨gA h6 row hr,List.all_eq_true.2 (l5 h7 row hr)⟩)
     ·grind
    ·grind
   ·grind
  ·grind
 |_=>cases h
end
section
set_option maxRecDepth 100000
attribute [local irreducible] ah aC af ad
def NI:FQ 79 Tryz.f79:=a_ Tryz.func79 Tryz.call79
def jr:List Nat:=[0,6,1,26,7,4,5,8,17,25,27,45]
def gN (ρ:Hd):List (Nat × Option Ob):=[(0,some (gO 0 0)),(1,some (dY ρ [])),(2,some (bD ρ [])),(3,some (dZ ρ [])),(4,some (d_ ρ [])),(5,some (bD ρ [])),(6,some (ec ρ []))]
theorem gNB {ρ:Hd}:fu (cT (aJ []) 0 0) (gS ρ ⟨[],[],⟨[],[],[]⟩⟩ []) (gN ρ) :=
 ⟨⟨0,_,rfl,rfl,.row ⟨.gr rfl,.mp rfl,.gr rfl,.mp rfl,.mp rfl,.mp rfl,trivial⟩⟩,⟨1,_,rfl,rfl,.pure (qD _)⟩,⟨2,_,rfl,rfl,.mb (eh iA _)⟩,⟨3,_,rfl,rfl,.pure (qE _)⟩,⟨4,_,rfl,rfl,.mp (eh iA _)⟩,⟨5,_,rfl,rfl,.mb (eh iA _)⟩,⟨6,_,rfl,rfl,.mp (eh tX _)⟩,trivial⟩
def gP (ρ:Hd) (i j q nl ul x y:Nat) (N:bB) (vs:List (Int × Int)) (up:List Nat) (sh ls:List (Int × Int)) (kn:KN):List (Nat × Ob):=[(0,oo i j nl ul),(i,dY ρ N),(2,bD ρ vs),(j,dZ ρ up),(4,d_ ρ sh),(5,bD ρ ls),(6,ec ρ kn),(q,.arr 2 [qF (x,y)] 0 false)]
theorem aaz {ρ:Hd}{i j q nl ul x y:Nat}{N:bB}{vs:List (Int × Int)}{up:List Nat}{sh ls:List (Int × Int)}{kn:KN}{T:ae}(h0:T.get 0=some (oo i j nl ul):=by rfl) (h1:T.get i=some (dY ρ N):=by rfl) (h2:T.get 2=some (bD ρ vs):=by rfl) (h3:T.get j=some (dZ ρ up):=by rfl) (h4:T.get 4=some (d_ ρ sh):=by rfl) (h5:T.get 5=some (bD ρ ls):=by rfl) (h6:T.get 6=some (ec ρ kn):=by rfl) (h7:T.get q=some (.arr 2 [qF (x,y)] 0 false):=by rfl):fC T (gP ρ i j q nl ul x y N vs up sh ls kn):=by
 intro p hp;unfold gP at hp;simp only[List.mem_cons,List.not_mem_nil,or_false] at hp;rcases hp with rfl|rfl|rfl|rfl|rfl|rfl|rfl|rfl<;>assumption
theorem gPN {ρ:Hd}{i j q nl ul x y:Nat}{N:bB}{vs:List (Int × Int)}{up:List Nat}{sh ls:List (Int × Int)}{kn:KN}{T:ae}(h:fC T (gP ρ i j q nl ul x y N vs up sh ls kn)):im (aJ [(1,i),(3,j),(7,q)]) 8 T (gX ρ nl ul N vs up sh ls kn++[(7,zM ρ [(x,y)])]):=by
 have h0:T.get 0=some (oo i j nl ul):=h (0,oo i j nl ul) (by simp[gP]);have h1:T.get i=some (dY ρ N):=h (i,dY ρ N) (by simp[gP]);have h2:T.get 2=some (bD ρ vs):=h (2,bD ρ vs) (by simp[gP]);have h3:T.get j=some (dZ ρ up):=h (j,dZ ρ up) (by simp[gP]);have h4:T.get 4=some (d_ ρ sh):=h (4,d_ ρ sh) (by simp[gP]);have h5:T.get 5=some (bD ρ ls):=h (5,bD ρ ls) (by simp[gP]);have h6:T.get 6=some (ec ρ kn):=h (6,ec ρ kn) (by simp[gP]);have h7:T.get q=some (.arr 2 [qF (x,y)] 0 false):=h (q,.arr 2 [qF (x,y)] 0 false) (by simp[gP]);have e7:zM ρ [(x,y)]=.arr 2 [qF (x,y)] 0 false:=by unfold zM;rw[ρ.eq];rfl
 rw[e7]
 exact⟨⟨_,h0,.row ⟨.gr rfl rfl,.mp rfl rfl,.gr rfl rfl,.mp rfl rfl,.mp rfl rfl,.mp rfl rfl,trivial⟩⟩,⟨_,h1,.pure (qD _)⟩,⟨_,h2,.mb (eh iA _)⟩,⟨_,h3,.pure (qE _)⟩,
  ⟨_,h4,.mp (eh iA _)⟩,⟨_,h5,.mb (eh iA _)⟩,⟨_,h6,.mp (eh tX _)⟩,⟨_,h7,.pure (fun row hr a ha=>by
   obtain rfl:=List.mem_singleton.1 hr;simp only[qF,List.mem_cons,List.not_mem_nil,or_false] at ha;rcases ha with rfl|rfl<;>exact .v)⟩,trivial⟩
def gWj (ρ:Hd) (a i j q nl ul:Nat) (N:bB) (vs:List (Int × Int)) (up:List Nat) (sh ls:List (Int × Int)) (kn:KN):List (Nat × Option Ob):=[(0,some (oo i j nl ul)),(i,some (dY ρ N)),(2,some (bD ρ vs)),(j,some (dZ ρ up)),(4,some (d_ ρ sh)),(5,some (bD ρ ls)),(6,some (ec ρ kn)),(q,none),
 (a,none),(a+1,none),(a+2,none),(a+3,none),(a+4,none),(a+5,none),(a+6,none),(a+7,none)]
theorem ahP {ρ:Hd}{a i j q nl ul:Nat}{N:bB}{vs:List (Int × Int)}{up:List Nat}{sh ls:List (Int × Int)}{kn:KN}:fu (cT (aJ [(1,i),(3,j),(7,q)]) 8 a) (gX ρ nl ul N vs up sh ls kn) (gWj ρ a i j q nl ul N vs up sh ls kn) :=
 ⟨⟨0,_,rfl,rfl,.row ⟨.gr rfl,.mp rfl,.gr rfl,.mp rfl,.mp rfl,.mp rfl,trivial⟩⟩,⟨1,_,rfl,rfl,.pure (qD _)⟩,⟨2,_,rfl,rfl,.mb (eh iA _)⟩,⟨3,_,rfl,rfl,.pure (qE _)⟩,⟨4,_,rfl,rfl,.mp (eh iA _)⟩,⟨5,_,rfl,rfl,.mb (eh iA _)⟩,⟨6,_,rfl,rfl,.mp (eh tX _)⟩,trivial⟩
theorem Qq {α:Type}{l:List α}{m:Nat}{x:α}(h:l[m]?=some x):l.drop m=x::l.drop (m+1):=by
 obtain⟨h1,h2⟩:=List.getElem?_eq_some_iff.1 h;rw[List.drop_eq_getElem_cons h1,h2]
section
variable {w0:World}{ρ:Hd}
theorem NJ {l r:List Tm}{b:Bool}{s':PS}{ex:Bool}{rows:List (List AV)}{cc:Int}(hl:l.length<=100000000000) (nM:ah Tryz.prog w0 134 [tl ρ l] (.v (.bool true))) (tY:ah Tryz.prog w0 134 [tl ρ r] (.v (.bool true))) (BN:∀ x ∈ l,eE x/\kz x) (BO:∀ x ∈ r,eE x/\kz x)
  (hlen:l.length=r.length) (hB:zy (l.zip r)<=100000000000) (hA:pN (l.zip r) ⟨[],[],⟨[],[],[]⟩⟩ b s') (hpo:Pure (.sl ex rows)) (hb:b=false->(ex=true/\rows=[])/\cc=13)
  (ahQ:b=true->aC Tryz.prog w0 138 [.pt 0 6 0 0] (aq (gS ρ s' []) 7) (.aG [.sl ex rows,iv cc]) (aq [] 7)) :
  aC Tryz.prog w0 79 [tl ρ l,tl ρ r] (aq [] 0) (.aG [.sl ex rows,iv cc]) (aq [] 0):=by
 have pK:Pure (.aG [.sl ex rows,iv cc]):=.aG fun a ha=>by
  simp only[List.mem_cons,List.not_mem_nil,or_false] at ha;rcases ha with rfl|rfl
  ·grind
  ·exact .v
 refine sc 0 0 NI ?_;refine gq jr ?_;refine ad.op rfl (af.aw rfl nM ⟨aS _,trivial⟩) ?_;refine gq jr ?_;refine ad.op rfl (af.aw rfl tY ⟨aS _,trivial⟩) ?_;refine gq jr ?_;refine cF fun q1 x9=>?_;rw[aE] at x9;refine gq jr ?_;refine cF fun q2 sd=>?_;rw[aE] at sd;refine gq jr ?_;refine bq (fun b8=>?_) (fun b8=>?_)<;>(try simp only[bX] at b8)
 ·grind
 refine gq jr ?_;refine ad.op rfl (af.kC [] (gN ρ) NF rfl trivial (.pt rfl) trivial gNB) ?_;refine gq jr ?_;refine cF fun q3 Ge=>?_;rw[aE] at Ge;refine gq jr ?_
 refine ad.bu (σ:=Int × PS × Nat × Nat) 7 9 [(7,1),(8,3)] (fun p=>[(0,tl ρ l),(1,tl ρ r),(4,.sl true []),(5,iv 0),(6,.pt 0 6 0 0),(25,iv q3),(26,iv p.1)]) []
  (fun p=>[(0,oo 7 8 p.2.2.1 p.2.2.2),(2,bD ρ p.2.1.vs),(4,d_ ρ p.2.1.js.sh),(5,bD ρ p.2.1.js.ls),(6,ec ρ []),(7,dY ρ p.2.1.N),(8,dZ ρ p.2.1.js.up)])
  (fun p=>∃ m:Nat,p.1=m/\m<=l.length/\GI p.2.1/\p.2.1.N.length+zy ((l.zip r).drop m)<=100000000000/\pN ((l.zip r).drop m) p.2.1 b s'/\p.2.2.1=p.2.1.N.length/\p.2.2.2=p.2.1.js.up.length) (fun p=>l.length - p.1.toNat)
  (0,⟨[],[],⟨[],[],[]⟩⟩,0,0) ⟨0,rfl,by simp,.nil,by grind,by grind,rfl,rfl⟩ rfl (by exact⟨sq,rfl,Qh,rfl,rfl,rfl⟩) ?_
 rintro⟨mi,⟨N1,lD,⟨gJ,ky,jW⟩⟩,n1,u1⟩ ⟨m,hm,Jp,DU,bS,Fv,kT,ic⟩;simp only at hm Jp DU bS Fv kT ic;refine gq jr ?_;refine bq (fun cy=>?_) (fun cy=>?_)<;>(try simp only[bX] at cy)
 ·have dG:m < l.length:=by omega
  obtain⟨x,hx⟩:∃ x,l[m]?=some x:=⟨_,List.getElem?_eq_getElem dG⟩;obtain⟨y,hy⟩:∃ y,r[m]?=some y:=⟨_,List.getElem?_eq_getElem (by omega)⟩;have hd:=Qq (List.getElem?_zip_eq_some (z:=(x,y)) |>.2 ⟨hx,hy⟩);rw[hd] at bS Fv;rw[zy] at bS;simp only at bS;obtain⟨wx,ax⟩:=BN x (List.mem_of_getElem? hx);obtain⟨wy,ay⟩:=BO y (List.mem_of_getElem? hy);obtain⟨g2,z2⟩:=DU.add wx ax;have k1:=VG (w0:=w0) (ρ:=ρ) (dk x) _ x [] (Nat.le_refl _) DU.V DU.F wx ax DU.A (by grind);obtain⟨⟨⟨N2,u5,⟨m9,q8,q9⟩⟩,rx⟩,fU⟩:∃ p,p=bM ⟨N1,lD,⟨gJ,ky,jW⟩⟩ x:=⟨_,rfl⟩
  have Jv:(∃ m' j,fO (bM (bM ⟨N1,lD,⟨gJ,ky,jW⟩⟩ x).1 y).1.N m' [((bM ⟨N1,lD,⟨gJ,ky,jW⟩⟩ x).2,(bM (bM ⟨N1,lD,⟨gJ,ky,jW⟩⟩ x).1 y).2)] (bM (bM ⟨N1,lD,⟨gJ,ky,jW⟩⟩ x).1 y).1.js=some (false,j)/\b=false) \/
    (∃ m' j,fO (bM (bM ⟨N1,lD,⟨gJ,ky,jW⟩⟩ x).1 y).1.N m' [((bM ⟨N1,lD,⟨gJ,ky,jW⟩⟩ x).2,(bM (bM ⟨N1,lD,⟨gJ,ky,jW⟩⟩ x).1 y).2)] (bM (bM ⟨N1,lD,⟨gJ,ky,jW⟩⟩ x).1 y).1.js=some (true,j)/\pN ((l.zip r).drop (m+1)) ⟨(bM (bM ⟨N1,lD,⟨gJ,ky,jW⟩⟩ x).1 y).1.N,(bM (bM ⟨N1,lD,⟨gJ,ky,jW⟩⟩ x).1 y).1.vs,j⟩ b s'):=by
   cases Fv with
   |no h=>exact .inl ⟨_,_,h,rfl⟩
   |go h k=>exact .inr ⟨_,_,h,k⟩
  rw[<-fU] at k1 g2 z2 Jv;simp only at g2 z2 Jv;obtain⟨g3,z3⟩:=g2.add wy ay;have k2:=VG (w0:=w0) (ρ:=ρ) (dk y) _ y [] (Nat.le_refl _) g2.V g2.F wy ay g2.A (by grind);obtain⟨⟨⟨N3,Jw,⟨DS,Dd,zc⟩⟩,ry⟩,Vq⟩:∃ p,p=bM ⟨N2,u5,⟨m9,q8,q9⟩⟩ y:=⟨_,rfl⟩;rw[<-Vq] at k2 g3 z3 Jv;simp only at g3 z3 Jv;clear fU Vq Fv;obtain⟨n2,jb⟩:∃ n2,n2=N2.length:=⟨_,rfl⟩;obtain⟨u2,jN⟩:∃ u2,u2=m9.length:=⟨_,rfl⟩;obtain⟨n3,yh⟩:∃ n3,n3=N3.length:=⟨_,rfl⟩;obtain⟨u3,se⟩:∃ u3,u3=DS.length:=⟨_,rfl⟩;rw[<-gE kT ic.symm] at k1;rw[<-gE jb jN.symm] at k2;have k1':aC Tryz.prog w0 137 [.pt 0 6 0 0,tm ρ x] (aq (gX ρ n1 u1 N1 lD gJ ky jW []) 7) (iv (rx:Nat)) (aq (Qj ρ n2 u2 N2 u5 m9 q8 q9 []) 9):=by rw[jb,jN];exact k1
  have k2':aC Tryz.prog w0 137 [.pt 0 6 0 0,tm ρ y] (aq (gX ρ n2 u2 N2 u5 m9 q8 q9 []) 7) (iv (ry:Nat)) (aq (Qj ρ n3 u3 N3 Jw DS Dd zc []) 9):=by rw[yh,se];exact k2
  obtain⟨bb,m',⟨up4,sh4,ls4⟩,hj,PF⟩:∃ bb m' j,fO N3 m' [(rx,ry)] ⟨DS,Dd,zc⟩=some (bb,j)/\((bb=false/\b=false)\/(bb=true/\pN ((l.zip r).drop (m+1)) ⟨N3,Jw,j⟩ b s')):=by grind
  have g4:=g3.join hj;have hu4:up4.length=u3:=by have:=o6 hj;simp only at this;omega
  have k3:=aam (w0:=w0) (ρ:=ρ) (vs:=Jw) (kn:=[]) (Gb.of g3.G g3.A) (by have:=g3.V.up;simp only at this z3 z2 ⊢;omega) hj;rw[<-gE yh se.symm,<-gE yh hu4] at k3;clear k1 k2 Jv;refine gq jr ?_;refine ad.fe rfl (fun T=>af.ind rfl rfl (fm (l:=l) hm hx) fp) ?_;refine gq jr ?_;refine ad.iJ rfl (a6.kC [(1,7),(3,8)] (gZ ρ 7 8 n1 u1 N1 lD gJ ky jW []) (gW ρ 9 7 8 n2 u2 N2 u5 m9 q8 q9 []) k1' rfl ⟨.pt rfl rfl,.pure (aT x),trivial⟩ (.pure .v) zR (fun T hT=>Qi hT) VF) ?_;refine gq jr ?_;refine ad.fe rfl (fun T=>af.ind rfl rfl (fm (l:=r) hm hy) fp) ?_;refine gq jr ?_;refine ad.iJ rfl (a6.kC [(1,16),(3,17)] (gZ ρ 16 17 n2 u2 N2 u5 m9 q8 q9 []) (gW ρ 25 16 17 n3 u3 N3 Jw DS Dd zc []) k2' rfl ⟨.pt rfl rfl,.pure (aT y),trivial⟩ (.pure .v) zR (fun T hT=>Qi hT) VF) ?_;refine ad.fe rfl (fun T=>af.quiet rfl) ?_;refine ad.iJ rfl (a6.adj rfl) ?_;refine gq jr ?_;refine ad.iJ rfl (a6.kC [(1,32),(3,33),(7,41)] (gP ρ 32 33 41 n3 u3 rx ry N3 Jw DS Dd zc []) (gWj ρ 42 32 33 41 n3 u3 N3 Jw up4 sh4 ls4 []) k3 rfl ⟨.pt rfl rfl,.gr rfl rfl,trivial⟩ (.pure .v) aaz (fun T hT=>gPN hT) ahP) ?_;rcases PF with ⟨rfl,hbf⟩|⟨rfl,hk⟩
  ·obtain⟨⟨rfl,rfl⟩,rfl⟩:=hb hbf;refine gq jr ?_;refine ad.cP ?_;refine gq jr ?_;refine fq ?_;exact⟨[],.ao (Pure.aV pK),trivial,rfl⟩
  ·refine gq jr ?_;refine cz (fun m2 gH=>?_);refine gq jr ?_;refine ad.aO (σ:=Int × PS × Nat × Nat) (m2,⟨N3,Jw,⟨up4,sh4,ls4⟩⟩,n3,u3) [(7,32),(8,33)] ⟨m+1,by grind,by omega,g4,by grind,hk,yh,hu4.symm⟩ ?_ (by exact⟨sq,rfl,Qh,rfl,rfl,rfl⟩);simp only;omega
 ·have dG:m=l.length:=by omega
  rw[dG,List.drop_of_length_le (by grind)] at Fv;obtain⟨rfl,rfl⟩:b=true/\s'=⟨N1,lD,⟨gJ,ky,jW⟩⟩:=by cases Fv;exact⟨rfl,rfl⟩
  have k:=ahQ rfl;rw[<-gE kT ic.symm] at k;refine gq jr ?_;refine ad.aH ?_;refine gq jr ?_;refine ad.op rfl (af.kC [(1,7),(3,8)] [(0,none),(7,none),(2,none),(8,none),(4,none),(5,none),(6,none),(9,none),(10,none),(11,none),(12,none),(13,none),(14,none),(15,none)] k rfl ⟨.pt rfl rfl,trivial⟩ (.pure pK) (Qi zR) trivial) ?_;refine gq jr ?_;refine fq ?_;exact⟨[],.ao (Pure.aV pK),trivial,rfl⟩
end
end
end Go.Proofs.YtbpabjmnhggajaaGreat
