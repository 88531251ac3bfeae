import Derived.Test.YtgjfgekaclobaaaGreatCm34
namespace Go.Proofs.YtgjfgekaclobaaaGreat
set_option linter.unusedVariables false
set_option linter.unusedSimpArgs false
open Go.RowKit
def iV (m:Nat):List (List AV)->Bool
 |[]=>true
 |r::l=>match Nat.beq r.length m with|true=>iV m l|false=>false
theorem eB {m:Nat}:∀ {l:List (List AV)},iV m l=true->∀ r ∈ l,r.length=m
 |[],_,r,h=>by cases h
 |b::l,hp,r,h=>by
  simp only [iV] at hp
  split at hp
  ·rename_i hb
   rcases List.mem_cons.1 h with rfl|h
   ·exact Nat.eq_of_beq_eq_true hb
   ·exact eB hp r h
  ·cases hp
def Fo (op:BinOp) (k:IntKind) (a:Int) (k':IntKind) (b:Int):Option Int:=match op with
 |.shl=>match decide (b < 0) with
  |false=>some (k.wrap (a*2 ^ (min b.toNat k.bits)))
  |true=>none
 |.shr=>match decide (b < 0) with
  |false=>some (a.fdiv (2 ^ (min b.toNat k.bits)))
  |true=>none
 |.and=>match decide (k=k') with|true=>some (k.wrap (BitVec.ofInt k.bits a &&& BitVec.ofInt k.bits b).toNat)|false=>none
 |.or=>match decide (k=k') with|true=>some (k.wrap (BitVec.ofInt k.bits a ||| BitVec.ofInt k.bits b).toNat)|false=>none
 |.xor=>match decide (k=k') with|true=>some (k.wrap (BitVec.ofInt k.bits a ^^^ BitVec.ofInt k.bits b).toNat)|false=>none
 |.andNot=>match decide (k=k') with|true=>some (k.wrap (BitVec.ofInt k.bits a &&& ~~~BitVec.ofInt k.bits b).toNat)|false=>none
 |.quo=>match decide (k=k'),decide (b=0) with|true,false=>some (k.wrap (a.tdiv b))|_,_=>none
 |.rem=>match decide (k=k'),decide (b=0) with|true,false=>some (a.tmod b)|_,_=>none
 |_=>none
def LF (dr:Bool) (op:BinOp) (bk:BK) (y:QO) (a b:AV):Option AV :=
 match E1 op bk a b with
 |some e=>some (.v (.bool e))
 |none=>match a,b with
  |.v (.int k i),.v (.int k' j)=>match arith op i j,decide (k=k') with
   |some c,true=>some (.v (.int k (k.wrap c)))
   |some _,false=>none
   |none,_=>match Fo op k i k' j with
    |some c=>some (.v (.int k c))
    |none=>none
  |.v (.string s),.v (.string t)=>match op,Nat.ble (s.size+t.size) 9223372036854775807 with
   |.add,true=>some (.v (.string (s++t)))
   |_,_=>none
  |a,_=>match bk,y with
   |.p,.c (.v (.pointer none))=>match BX a with
    |some b=>match yQ op b with
     |some d=>some (.v (.bool d))
     |none=>none
    |none=>none
   |.s,.c (.sl true [])=>match BV a with
    |some b=>match yQ op b with
     |some d=>some (.v (.bool d))
     |none=>none
    |none=>none
   |_,_=>none
def LG (k:SK) (a:AV) (f:Nat->AV) (lo hi mx:Option QO):Option AV :=
 match mx with
 |none=>match k,a with
  |.str,.v (.string s)=>match j8 f lo 0,j8 f hi s.size with
   |some l,some h=>match decide (0<=l/\l<=h/\h<=s.size) with
    |true=>some (.v (.string (s.extract l.toNat h.toNat)))
    |false=>none
   |_,_=>none
  |.sl m,.sl ex rows=>match j8 f lo 0,j8 f hi rows.length with
   |some l,some h=>match decide (0<=l/\l<=h/\h<=rows.length) && iV m rows with
    |true=>some (.sl false ((rows.take h.toNat).drop l.toNat))
    |false=>none
   |_,_=>none
  |.sl m,.ob k sz off len cx=>match j8 f hi len with
   |some h=>match lo with
    |none=>match decide (0<=h/\h<=len) && Nat.beq m sz with
     |true=>some (.ob k sz off h.toNat cx)
     |false=>none
    |some x=>match x.ev f with
     |.v (.int _ l)=>match decide (0<=l/\l<=h/\h<=len) && Nat.beq m sz with
      |true=>match decide (l=h) with
       |true=>some (.sl false [])
       |false=>some (.ob k sz (off+l.toNat) (h.toNat - l.toNat) (cx.map (· - l.toNat)))
      |false=>none
     |_=>none
   |none=>none
  |_,_=>none
 |some z=>match z.ev f,hi with
  |.v (.int _ c),some y=>match y.ev f with
   |.v (.int _ h)=>match k,a with
    |.sl m,.sl ex rows=>match j8 f lo 0 with
     |some l=>match decide (0<=l/\l<=h/\h=c/\h<=rows.length) && iV m rows with
      |true=>some (.sl true ((rows.take h.toNat).drop l.toNat))
      |false=>none
     |none=>none
    |.sl m,.ob k sz off len cx=>match j8 f lo 0 with
     |some l=>match decide (l=0/\h=c/\h<=len/\0<=h) && Nat.beq m sz with
      |true=>some (.ob k sz off h.toNat (some h.toNat))
      |false=>none
     |none=>none
    |_,_=>none
   |_=>none
  |_,_=>none
def o7 (dr:Bool) (q:cB) (f:Nat->AV):Option AV :=
 match q with
 |.bin op bk x y=>LF dr op bk y (x.ev f) (y.ev f)
 |.neg x=>match x.ev f with
  |.v (.int k a)=>some (.v (.int k (k.wrap (0 - a))))
  |_=>none
 |.conv k x=>match x.ev f with
  |.v (.int _ a)=>some (.v (.int k (k.wrap a)))
  |_=>none
 |.oo x=>match x.ev f with
  |.v (.string a)=>some (.v (.string a))
  |_=>none
 |.lx m x i=>match i.ev f with
  |.v (.int _ j)=>match x.ev f with
   |.sl _ rows=>match iV m rows with
    |true=>match idx rows j with
     |some row=>some (.ip row)
     |none=>none
    |false=>none
   |.ob k m' off len _=>match Nat.beq m' m && decide (0<=j/\j < len) with
    |true=>some (.pt k m (off+j.toNat) 0)
    |false=>none
   |_=>none
  |_=>none
 |.nj len n x i=>match i.ev f with
  |.v (.int _ j)=>match decide (0<=j/\j < len) with
   |true=>match x.ev f with
    |.ip row=>some (.ip (row.drop (j.toNat*n)))
    |.pt k sz i q=>some (.pt k sz i (q+j.toNat*n))
    |_=>none
   |false=>none
  |_=>none
 |.sR x i=>match x.ev f,i.ev f with
  |.v (.string s),.v (.int _ j)=>match idx s.data.toList j with
   |some b=>some (.v (.int .u8 b.toNat))
   |none=>none
  |_,_=>none
 |.q_ len m k x i=>match x.ev f,i.ev f with
  |.agg l,.v (.int _ j)=>match decide (0<=j/\j < len) with
   |true=>l7 k l (j.toNat*m)
   |false=>none
  |_,_=>none
 |.slice k x lo hi mx=>LG k (x.ev f) f lo hi mx
 |.copy _ x y=>match x.ev f,y.ev f with
  |.sl _ [],.sl _ []=>some (.v (.int .i64 0))
  |_,_=>none
 |.len str x=>match KK str (x.ev f) with
  |some m=>some (.v (.int .i64 m))
  |none=>match str,x.ev f with
   |false,.gr _ _ len=>some (.v (.int .i64 len))
   |_,_=>none
 |.min x y=>match x.ev f,y.ev f with
  |.v (.int k a),.v (.int k' b)=>match decide (k'=k) with
   |true=>some (.v (.int k (min a b)))
   |false=>none
  |_,_=>none
 |.max x y=>match x.ev f,y.ev f with
  |.v (.int k a),.v (.int k' b)=>match decide (k'=k) with
   |true=>some (.v (.int k (max a b)))
   |false=>none
  |_,_=>none
 |q=>match yA q with
  |true=>match fT q f aa.none_ with
   |some (r,_)=>some r
   |none=>none
  |false=>none
section
variable {P:Program}{w0:World}{o:Op}{α:AA}{S S':aa}{r:AV}{dr:Bool}
theorem Er {k:SK}{x:QO}{lo hi mx:Option QO}(h:res P.toTables o=some (.slice k x lo hi mx)):∃ t u l1 h1 m1,o=.slice t u l1 h1 m1/\x=qo u/\lo=l1.map qo/\hi=h1.map qo/\mx=m1.map qo /\
  ((k=.str/\P.underlying t=some .string)\/∃ e m,k=.sl m/\P.underlying t=some (.slice e)/\bZ P e=some m):=by
 cases o with
 |slice t u l1 h1 m1 =>
  simp only [res,a7,cL] at h
  split at h
  ·rename_i hu
   simp only [Option.some.injEq,cB.slice.injEq] at h
   obtain⟨rfl,rfl,rfl,rfl,rfl⟩:=h
   exact⟨_,_,_,_,_,rfl,rfl,rfl,rfl,rfl,.inl ⟨rfl,hu⟩⟩
  ·rename_i e hu
   split at h
   ·rename_i m hs
    simp only [Option.some.injEq,cB.slice.injEq] at h
    obtain⟨rfl,rfl,rfl,rfl,rfl⟩:=h
    exact⟨_,_,_,_,_,rfl,rfl,rfl,rfl,rfl,.inr ⟨_,_,rfl,hu,hs⟩⟩
   ·cases h
  ·cases h
 |_ =>
  simp only [res] at h
  repeat' split at h
  all_goals cases h
theorem ad.aaE {k:SK}{x:QO}{lo hi mx:Option QO}{r:AV}(h:∀ t,((k=.str/\P.underlying t=some .string)\/∃ e m,k=.sl m/\P.underlying t=some (.slice e)/\bZ P e=some m) ->
  jw P t (nT r S) S (x.ev α.tm) (lo.map (·.ev α.tm)) (hi.map (·.ev α.tm)) (mx.map (·.ev α.tm))):ad P w0 dr (.slice k x lo hi mx) α S r S:=by
 refine ad.of rfl fun o hr=>?_
 obtain⟨t,u,l1,h1,m1,rfl,rfl,rfl,rfl,rfl,ht⟩:=Er hr
 have h:=h t ht
 have e:∀ z:Option Operand,(z.map qo).map (·.ev α.tm)=z.map α.ev:=fun z=>by
  cases z with
  |none=>rfl
  |some z=>simp [aD]
 rw [e,e,e,aD] at h
 exact h
theorem ko {f:Nat->AV}{lo:Option QO}{d i:Int}(h:j8 f lo d=some i):iS (lo.map (·.ev f)) d=some i:=by
 cases lo with
 |none=>exact h
 |some x =>
  simp only [j8] at h
  simp only [Option.map_some,iS]
  split at h
  ·rename_i e;rw [e];exact h
  ·cases h
theorem Fp {k:SK}{x:QO}{f:Nat->AV}{df:List DE}{lo hi mx:Option QO}{r:AV}(h:LG k (x.ev f) f lo hi mx=some r):ad P w0 dr (.slice k x lo hi mx) ⟨f,df⟩ S r S:=by
 refine ad.aaE fun t ht=>?_
 simp only
 unfold LG at h
 split at h
 ·simp only [Option.map_none]
  split at h
  ·rename_i s hs
   split at h
   ·rename_i l hh h1 h2
    split at h
    ·rename_i hd
     have hd:=of_decide_eq_true hd
     obtain rfl:=Option.some.inj h
     rcases ht with ⟨_,ht⟩|⟨e,m,hk,_⟩
     ·rw [hs]
      simp only [jw,ht,ko h1,ko h2]
      exact⟨hd.1,hd.2.1,hd.2.2,rfl,rfl⟩
     ·cases hk
    ·cases h
   ·cases h
  ·rename_i m ex rows hs
   split at h
   ·rename_i l hh h1 h2
    split at h
    ·rename_i hd
     simp only [Bool.and_eq_true] at hd
     have dG:=of_decide_eq_true hd.1
     have fC:=eB hd.2
     obtain rfl:=Option.some.inj h
     rcases ht with ⟨hk,_⟩|⟨e,m',hk,ht,hz⟩
     ·cases hk
     ·injection hk with hk
      subst hk
      rw [hs]
      simp only [jw,ht,ko h1,ko h2,hz]
      exact⟨fun row hr=>by rw [fC row hr],rfl,dG.1,dG.2.1,dG.2.2,rfl,rfl⟩
    ·cases h
   ·cases h
  ·rename_i m kk sz off len cx hs
   split at h
   ·rename_i hh h2
    split at h
    ·split at h
     ·rename_i hd
      simp only [Bool.and_eq_true] at hd
      have dG:=of_decide_eq_true hd.1
      have fC:=Nat.eq_of_beq_eq_true hd.2
      obtain rfl:=Option.some.inj h
      rcases ht with ⟨hk,_⟩|⟨e,m',hk,ht,hz⟩
      ·cases hk
      ·injection hk with hk
       subst hk
       rw [hs]
       simp only [jw,ht,ko h2,hz,Option.map_none]
       exact⟨by rw [fC],dG.1,dG.2,rfl,rfl⟩
     ·cases h
    ·rename_i y
     split at h
     ·rename_i ik l hl
      split at h
      ·rename_i hd
       simp only [Bool.and_eq_true] at hd
       have dG:=of_decide_eq_true hd.1
       have fC:=Nat.eq_of_beq_eq_true hd.2
       rcases ht with ⟨hk,_⟩|⟨e,m',hk,ht,hz⟩
       ·cases hk
       ·injection hk with hk
        subst hk
        rw [hs]
        simp only [jw,ht,ko h2,hz,Option.map_some,hl]
        split at h
        ·rename_i he
         obtain rfl:=Option.some.inj h
         have he:=of_decide_eq_true he
         exact⟨by rw [fC],dG.1,dG.2.1,dG.2.2,fun _=>⟨rfl,rfl⟩,fun aB=>by omega⟩
        ·rename_i he
         obtain rfl:=Option.some.inj h
         have he:=of_decide_eq_false he
         exact⟨by rw [fC],dG.1,dG.2.1,dG.2.2,fun hq=>absurd hq he,fun _=>⟨rfl,rfl⟩⟩
      ·cases h
     ·cases h
   ·cases h
  ·cases h
 ·rename_i z
  simp only [Option.map_some]
  split at h
  ·rename_i ik c y hz
   split at h
   ·rename_i ik' hh hy
    split at h
    ·rename_i m ex rows hs
     split at h
     ·rename_i l h1
      split at h
      ·rename_i hd
       simp only [Bool.and_eq_true] at hd
       have dG:=of_decide_eq_true hd.1
       have fC:=eB hd.2
       obtain rfl:=Option.some.inj h
       rcases ht with ⟨hk,_⟩|⟨e,m',hk,ht,nV⟩
       ·cases hk
       ·injection hk with hk
        subst hk
        rw [hs,hz]
        simp only [jw,ht,ko h1,nV,Option.map_some,hy]
        exact⟨fun row hr=>by rw [fC row hr],rfl,dG.1,dG.2.1,dG.2.2.1,dG.2.2.2,rfl,rfl⟩
      ·cases h
     ·cases h
    ·rename_i m kk sz off len cx hs
     split at h
     ·rename_i l h1
      split at h
      ·rename_i hd
       simp only [Bool.and_eq_true] at hd
       have dG:=of_decide_eq_true hd.1
       have fC:=Nat.eq_of_beq_eq_true hd.2
       obtain rfl:=Option.some.inj h
       rcases ht with ⟨hk,_⟩|⟨e,m',hk,ht,nV⟩
       ·cases hk
       ·injection hk with hk
        subst hk
        rw [hs,hz]
        simp only [jw,ht,ko h1,nV,Option.map_some,hy]
        exact⟨by rw [fC],dG.1,dG.2.1,dG.2.2.1,dG.2.2.2,rfl,rfl⟩
      ·cases h
     ·cases h
    ·cases h
   ·cases h
  ·cases h
theorem ad.aaF {op:BinOp}{bk:BK}{x y:QO}{a b r:Value}(hx:x.ev α.tm=.v a) (hy:y.ev α.tm=.v b) (h:∀ (t:TypeId) (u v:Operand) (w:World),(eqGuard op t u v a b).run P w=.ok () w/\(binOp op t a b).run P w=.ok r w):ad P w0 dr (.bin op bk x y) α S (.v r) S:=by
 have key:∀ {n:Nat}{o:Oper}(β:AA) (T:aa),res P.toTables o.op=some (.bin op bk x y)->x.ev β.tm=.v a->y.ev β.tm=.v b->de P w0 n o β T (.v r) T:=by
  intro n o β T hr hx hy
  obtain⟨t,u,v,s,ho,rfl,rfl,_⟩:=mT hr
  rw [aD] at hx hy
  refine aI.ops (aI.quiet fun A g c w hS hA=>⟨r,?_,.v⟩) fun c e=>by rw [ho] at e;cases e
  have e1:=hA.ev u
  have e2:=hA.ev v
  rw [hx] at e1
  rw [hy] at e2
  simp only [execOp,ho,bg e1,bg e2,Sem.run_bind,(h t u v w).1,Result.andThen_ok,(h t u v w).2,Sem.run_pure]
 cases dr with
 |false=>exact fun n o hr=>key α S hr hx hy
 |true =>
  intro n o hr
  obtain⟨t,u,v,s,ho,hu,hv,_⟩:=mT hr
  have hk:∀ z ∈ o.op.operands,(α.only (bU o)).ev z=α.ev z:=fun z hz=>dM fun t e=>dA (by rw [<-e];exact hz)
  have h1:(α.only (bU o)).ev u=α.ev u:=hk u (by rw [ho];simp [Op.operands])
  have h2:(α.only (bU o)).ev v=α.ev v:=hk v (by rw [ho];simp [Op.operands])
  have h3:∀ T,de P w0 n o (α.only (bU o)) T (.v r) T:=fun T=>key _ T hr (by rw [hu,aD,h1,<-aD,<-hu];exact hx) (by rw [hv,aD,h2,<-aD,<-hv];exact hy)
  exact⟨h3 S,fun _=>⟨rfl,h3⟩,fun _=>rfl⟩
theorem JJ {op:BinOp}{k k':IntKind}{a b c:Int}(h:Fo op k a k' b=some c) (t:TypeId) (u v:Operand) (w:World):(eqGuard op t u v (.int k a) (.int k' b)).run P w=.ok () w/\(binOp op t (.int k a) (.int k' b)).run P w=.ok (.int k c) w:=by
 unfold Fo at h
 split at h
 ·split at h
  ·rename_i hb
   have hb:=of_decide_eq_false hb
   obtain rfl:=Option.some.inj h
   exact⟨rfl,by simp [binOp,Op.shift,hb]⟩
  ·cases h
 ·split at h
  ·rename_i hb
   have hb:=of_decide_eq_false hb
   obtain rfl:=Option.some.inj h
   exact⟨rfl,by simp [binOp,Op.shift,hb]⟩
  ·cases h
 ·split at h
  ·rename_i hk
   have hk:=of_decide_eq_true hk
   subst hk
   obtain rfl:=Option.some.inj h
   exact⟨rfl,by simp [binOp,Op.intBits]⟩
  ·cases h
 ·split at h
  ·rename_i hk
   have hk:=of_decide_eq_true hk
   subst hk
   obtain rfl:=Option.some.inj h
   exact⟨rfl,by simp [binOp,Op.intBits]⟩
  ·cases h
 ·split at h
  ·rename_i hk
   have hk:=of_decide_eq_true hk
   subst hk
   obtain rfl:=Option.some.inj h
   exact⟨rfl,by simp [binOp,Op.intBits]⟩
  ·cases h
 ·split at h
  ·rename_i hk
   have hk:=of_decide_eq_true hk
   subst hk
   obtain rfl:=Option.some.inj h
   exact⟨rfl,by simp [binOp,Op.intBits]⟩
  ·cases h
 ·split at h
  ·rename_i hk hb
   have hk:=of_decide_eq_true hk
   have hb:=of_decide_eq_false hb
   subst hk
   obtain rfl:=Option.some.inj h
   exact⟨rfl,by simp [binOp,Op.intDiv,hb]⟩
  ·cases h
 ·split at h
  ·rename_i hk hb
   have hk:=of_decide_eq_true hk
   have hb:=of_decide_eq_false hb
   subst hk
   obtain rfl:=Option.some.inj h
   exact⟨rfl,by simp [binOp,Op.intDiv,hb]⟩
  ·cases h
 ·cases h
theorem Fq {op:BinOp}{bk:BK}{x y:QO}{f:Nat->AV}{df:List DE}{r:AV}(h:LF dr op bk y (x.ev f) (y.ev f)=some r):ad P w0 dr (.bin op bk x y) ⟨f,df⟩ S r S:=by
 unfold LF at h
 split at h
 ·rename_i e he
  obtain rfl:=Option.some.inj h
  exact ad.bit he
 ·split at h
  ·rename_i k i k' j h1 h2
   split at h
   ·rename_i c hc hk
    have hk:=of_decide_eq_true hk
    subst hk
    obtain rfl:=Option.some.inj h
    exact ad.Y4 h1 h2 hc
   ·cases h
   ·split at h
    ·rename_i c hc
     obtain rfl:=Option.some.inj h
     exact ad.aaF h1 h2 (JJ hc)
    ·cases h
  ·rename_i s t h1 h2
   split at h
   ·rename_i hl
    obtain rfl:=Option.some.inj h
    exact ad.cat h1 h2 (Nat.le_of_ble_eq_true (by assumption))
   ·cases h
  ·split at h
   ·split at h
    ·rename_i b hb
     split at h
     ·rename_i d hd
      obtain rfl:=Option.some.inj h
      exact ad.aaD hb hd
     ·cases h
    ·cases h
   ·split at h
    ·rename_i b hb
     split at h
     ·rename_i d hd
      obtain rfl:=Option.some.inj h
      exact ad.nil hb hd
     ·cases h
    ·cases h
   ·cases h
theorem ad.aaG {len n:Nat}{x i:QO}{row:List AV}{ik:IntKind}{j:Int}(h1:x.ev α.tm=.ip row) (h2:i.ev α.tm=.v (.int ik j)) (h3:0<=j) (h4:j < len):ad P w0 dr (.nj len n x i) α S (.ip (row.drop (j.toNat*n))) S:=by
 refine ad.of rfl fun o hr=>?_
 cases o<;>simp only [res,a7,cL] at hr<;>(repeat' split at hr)<;>(try cases hr)
 rw [aD] at h1 h2
 simp only [aK,h1,h2,‹P.underlying _=_›,‹bZ P _=_›]
 exact⟨h3,h4,rfl,rfl⟩
theorem ad.Fs {len n:Nat}{x i:QO}{k sz p q:Nat}{ik:IntKind}{j:Int}(h1:x.ev α.tm=.pt k sz p q) (h2:i.ev α.tm=.v (.int ik j)) (h3:0<=j) (h4:j < len):ad P w0 dr (.nj len n x i) α S (.pt k sz p (q+j.toNat*n)) S:=by
 refine ad.of rfl fun o hr=>?_
 cases o<;>simp only [res,a7,cL] at hr<;>(repeat' split at hr)<;>(try cases hr)
 rw [aD] at h1 h2
 simp only [aK,h1,h2,‹P.underlying _=_›,‹bZ P _=_›]
 exact⟨h3,h4,rfl,rfl⟩
theorem zX {q:cB}{f:Nat->AV}{df:List DE}{r:AV}(h:o7 dr q f=some r):ad P w0 dr q ⟨f,df⟩ S r S:=by
 have quiet:∀ {q:cB},(match yA q with|true=>(match fT q f aa.none_ with|some (r,_)=>some r|none=>none)|false=>none)=some r->ad P w0 dr q ⟨f,df⟩ S r S:=fun {q} h=>by
  split at h
  ·rename_i hp
   split at h
   ·rename_i r' S1 hq
    obtain rfl:=Option.some.inj h
    exact ad.quiet (A6 hp hq S)
   ·cases h
  ·cases h
 cases q with
 |bin op bk x y=>exact Fq h
 |neg x =>
  simp only [o7] at h
  split at h
  ·rename_i hx;obtain rfl:=Option.some.inj h;exact ad.neg hx
  ·cases h
 |conv k x =>
  simp only [o7] at h
  split at h
  ·rename_i hx;obtain rfl:=Option.some.inj h;exact ad.conv hx
  ·cases h
 |oo x =>
  simp only [o7] at h
  split at h
  ·rename_i hx;obtain rfl:=Option.some.inj h;exact ad.oo hx
  ·cases h
 |copy sz x y =>
  simp only [o7] at h
  split at h
  ·rename_i hx hy;obtain rfl:=Option.some.inj h;exact ad.aaz hx hy
  ·cases h
 |lx m x i =>
  simp only [o7] at h
  split at h
  ·rename_i ik j hi
   split at h
   ·rename_i ex rows hx
    split at h
    ·rename_i ha
     split at h
     ·rename_i row hr
      obtain rfl:=Option.some.inj h
      exact ad.ind hx hi hr (eB ha)
     ·cases h
    ·cases h
   ·rename_i k m' off len cx hx
    split at h
    ·rename_i hb
     simp only [Bool.and_eq_true] at hb
     have h1:=Nat.eq_of_beq_eq_true hb.1
     have h2:=of_decide_eq_true hb.2
     subst h1
     obtain rfl:=Option.some.inj h
     exact ad.RO hx hi h2.1 h2.2
    ·cases h
   ·cases h
  ·cases h
 |nj len n x i =>
  simp only [o7] at h
  split at h
  ·rename_i ik j hi
   split at h
   ·rename_i hd
    have hd:=of_decide_eq_true hd
    split at h
    ·rename_i row hx;obtain rfl:=Option.some.inj h;exact ad.aaG hx hi hd.1 hd.2
    ·rename_i k sz p q hx;obtain rfl:=Option.some.inj h;exact ad.Fs hx hi hd.1 hd.2
    ·cases h
   ·cases h
  ·cases h
 |sR x i =>
  simp only [o7] at h
  split at h
  ·rename_i hx hi
   split at h
   ·rename_i b hb;obtain rfl:=Option.some.inj h;exact ad.KL hx hi hb
   ·cases h
  ·cases h
 |q_ len m k x i =>
  simp only [o7] at h
  split at h
  ·rename_i hx hi
   split at h
   ·rename_i hd
    have hd:=of_decide_eq_true hd
    exact ad.q_ hx hi h hd.1 hd.2
   ·cases h
  ·cases h
 |slice k x lo hi mx=>exact Fp h
 |len str x =>
  simp only [o7] at h
  split at h
  ·rename_i m hm;obtain rfl:=Option.some.inj h;exact ad.len hm
  ·split at h
   ·obtain rfl:=Option.some.inj h;exact ad.wI (by assumption)
   ·cases h
 |min x y =>
  simp only [o7] at h
  split at h
  ·rename_i k a k' b hx hy
   split at h
   ·rename_i hd
    have hd:=of_decide_eq_true hd
    subst hd
    obtain rfl:=Option.some.inj h
    exact ad.min hx hy
   ·cases h
  ·cases h
 |max x y =>
  simp only [o7] at h
  split at h
  ·rename_i k a k' b hx hy
   split at h
   ·rename_i hd
    have hd:=of_decide_eq_true hd
    subst hd
    obtain rfl:=Option.some.inj h
    exact ad.max hx hy
   ·cases h
  ·cases h
 |_=>exact quiet h
end
end Go.Proofs.YtgjfgekaclobaaaGreat
