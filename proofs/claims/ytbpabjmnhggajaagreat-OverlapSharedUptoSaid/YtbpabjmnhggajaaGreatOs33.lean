import Derived.Test.YtbpabjmnhggajaaGreatOs31
namespace Go.Proofs.YtbpabjmnhggajaaGreat
set_option linter.unusedVariables false
set_option linter.unusedSimpArgs false
open Go.RowKit
def lA (m:Nat):List (List AV)->Bool
 |[]=>true
 |r::l=>match Nat.beq r.length m with|true=>lA m l|false=>false
theorem gA {m:Nat}:∀ {l:List (List AV)},lA m l=true->∀ r ∈ l,r.length=m
 |[],_,r,h=>by grind
 |b::l,hp,r,h=>by
  simp only[lA] at hp;split at hp
  ·rename_i hb;rcases List.mem_cons.1 h with rfl|h
   ·exact Nat.eq_of_beq_eq_true hb
   ·exact gA hp r h
  ·grind
def Nj (op:BinOp) (k:IntKind) (a:Int) (k':IntKind) (b:Int):Option Int:=match op with
 |.shl=>match decide (b < 0) with
  |false=>some (k.wrap (a*2 ^ (min b.toNat k.bits)))
  |true=>none
 |.shr=>match decide (b < 0) with
  |false=>some (a.fdiv (2 ^ (min b.toNat k.bits)))
  |true=>none
 |.and=>match decide (k=k') with|true=>some (k.wrap (BitVec.ofInt k.bits a &&& BitVec.ofInt k.bits b).toNat)|false=>none
 |.or=>match decide (k=k') with|true=>some (k.wrap (BitVec.ofInt k.bits a ||| BitVec.ofInt k.bits b).toNat)|false=>none
 |.xor=>match decide (k=k') with|true=>some (k.wrap (BitVec.ofInt k.bits a ^^^ BitVec.ofInt k.bits b).toNat)|false=>none
 |.andNot=>match decide (k=k') with|true=>some (k.wrap (BitVec.ofInt k.bits a &&& ~~~BitVec.ofInt k.bits b).toNat)|false=>none
 |.quo=>match decide (k=k'),decide (b=0) with|true,false=>some (k.wrap (a.tdiv b))|_,_=>none
 |.rem=>match decide (k=k'),decide (b=0) with|true,false=>some (a.tmod b)|_,_=>none
 |_=>none
def S6 (dr:Bool) (op:BinOp) (bk:BK) (y:QO) (a b:AV):Option AV :=
 match MB op bk a b with
 |some e=>some (.v (.bool e))
 |none=>match a,b with
  |.v (.int k i),.v (.int k' j)=>match arith op i j,decide (k=k') with
   |some c,true=>some (.v (.int k (k.wrap c)))
   |some _,false=>none
   |none,_=>match Nj op k i k' j with
    |some c=>some (.v (.int k c))
    |none=>none
  |.v (.string s),.v (.string t)=>match op,Nat.ble (s.size+t.size) 9223372036854775807 with
   |.add,true=>some (.v (.string (s++t)))
   |_,_=>none
  |a,_=>match bk,y with
   |.p,.c (.v (.pointer none))=>match Il a with
    |some b=>match zk op b with
     |some d=>some (.v (.bool d))
     |none=>none
    |none=>none
   |.s,.c (.sl true [])=>match xd a with
    |some b=>match zk op b with
     |some d=>some (.v (.bool d))
     |none=>none
    |none=>none
   |_,_=>none
def S7 (k:SK) (a:AV) (f:Nat->AV) (lo hi mx:Option QO):Option AV :=
 match mx with
 |none=>match k,a with
  |.str,.v (.string s)=>match mU f lo 0,mU f hi s.size with
   |some l,some h=>match decide (0<=l/\l<=h/\h<=s.size) with
    |true=>some (.v (.string (s.extract l.toNat h.toNat)))
    |false=>none
   |_,_=>none
  |.sl m,.sl ex rows=>match mU f lo 0,mU f hi rows.length with
   |some l,some h=>match decide (0<=l/\l<=h/\h<=rows.length) && lA m rows with
    |true=>some (.sl false ((rows.take h.toNat).drop l.toNat))
    |false=>none
   |_,_=>none
  |.sl m,.ob k sz off len cx=>match mU f hi len with
   |some h=>match lo with
    |none=>match decide (0<=h/\h<=len) && Nat.beq m sz with
     |true=>some (.ob k sz off h.toNat cx)
     |false=>none
    |some x=>match x.ev f with
     |.v (.int _ l)=>match decide (0<=l/\l<=h/\h<=len) && Nat.beq m sz with
      |true=>match decide (l=h) with
       |true=>some (.sl false [])
       |false=>some (.ob k sz (off+l.toNat) (h.toNat - l.toNat) (cx.map (· - l.toNat)))
      |false=>none
     |_=>none
   |none=>none
  |_,_=>none
 |some z=>match z.ev f,hi with
  |.v (.int _ c),some y=>match y.ev f with
   |.v (.int _ h)=>match k,a with
    |.sl m,.sl ex rows=>match mU f lo 0 with
     |some l=>match decide (0<=l/\l<=h/\h=c/\h<=rows.length) && lA m rows with
      |true=>some (.sl true ((rows.take h.toNat).drop l.toNat))
      |false=>none
     |none=>none
    |.sl m,.ob k sz off len cx=>match mU f lo 0 with
     |some l=>match decide (l=0/\h=c/\h<=len/\0<=h) && Nat.beq m sz with
      |true=>some (.ob k sz off h.toNat (some h.toNat))
      |false=>none
     |none=>none
    |_,_=>none
   |_=>none
  |_,_=>none
def tR (dr:Bool) (q:ee) (f:Nat->AV):Option AV :=
 match q with
 |.bin op bk x y=>S6 dr op bk y (x.ev f) (y.ev f)
 |.neg x=>match x.ev f with
  |.v (.int k a)=>some (.v (.int k (k.wrap (0 - a))))
  |_=>none
 |.conv k x=>match x.ev f with
  |.v (.int _ a)=>some (.v (.int k (k.wrap a)))
  |_=>none
 |.sD x=>match x.ev f with
  |.v (.string a)=>some (.v (.string a))
  |_=>none
 |.ox m x i=>match i.ev f with
  |.v (.int _ j)=>match x.ev f with
   |.sl _ rows=>match lA m rows with
    |true=>match idx rows j with
     |some row=>some (.ip row)
     |none=>none
    |false=>none
   |.ob k m' off len _=>match Nat.beq m' m && decide (0<=j/\j < len) with
    |true=>some (.pt k m (off+j.toNat) 0)
    |false=>none
   |_=>none
  |_=>none
 |.ph len n x i=>match i.ev f with
  |.v (.int _ j)=>match decide (0<=j/\j < len) with
   |true=>match x.ev f with
    |.ip row=>some (.ip (row.drop (j.toNat*n)))
    |.pt k sz i q=>some (.pt k sz i (q+j.toNat*n))
    |_=>none
   |false=>none
  |_=>none
 |.yv x i=>match x.ev f,i.ev f with
  |.v (.string s),.v (.int _ j)=>match idx s.data.toList j with
   |some b=>some (.v (.int .u8 b.toNat))
   |none=>none
  |_,_=>none
 |.oJ len m k x i=>match x.ev f,i.ev f with
  |.agg l,.v (.int _ j)=>match decide (0<=j/\j < len) with
   |true=>pD k l (j.toNat*m)
   |false=>none
  |_,_=>none
 |.slice k x lo hi mx=>S7 k (x.ev f) f lo hi mx
 |.copy _ x y=>match x.ev f,y.ev f with
  |.sl _ [],.sl _ []=>some (.v (.int .i64 0))
  |_,_=>none
 |.len str x=>match RP str (x.ev f) with
  |some m=>some (.v (.int .i64 m))
  |none=>match str,x.ev f with
   |false,.gr _ _ len=>some (.v (.int .i64 len))
   |_,_=>none
 |.min x y=>match x.ev f,y.ev f with
  |.v (.int k a),.v (.int k' b)=>match decide (k'=k) with
   |true=>some (.v (.int k (min a b)))
   |false=>none
  |_,_=>none
 |.max x y=>match x.ev f,y.ev f with
  |.v (.int k a),.v (.int k' b)=>match decide (k'=k) with
   |true=>some (.v (.int k (max a b)))
   |false=>none
  |_,_=>none
 |q=>match EZ q with
  |true=>match ja q f ae.none_ with
   |some (r,_)=>some r
   |none=>none
  |false=>none
section
variable {P:Program}{w0:World}{o:Op}{α:AA}{S S':ae}{r:AV}{dr:Bool}
theorem E0 {k:SK}{x:QO}{lo hi mx:Option QO}(h:res P.toTables o=some (.slice k x lo hi mx)):∃ t u l1 h1 m1,o=.slice t u l1 h1 m1/\x=qo u/\lo=l1.map qo/\hi=h1.map qo/\mx=m1.map qo /\
  ((k=.str/\P.underlying t=some .string)\/∃ e m,k=.sl m/\P.underlying t=some (.slice e)/\cY P e=some m):=by
 cases o with
 |slice t u l1 h1 m1 =>
  simp only[res,bE,dS] at h;split at h
  ·grind
  ·grind
  ·grind
 |_ =>
  simp only[res] at h
  repeat' split at h
  all_goals cases h
theorem af.ZK {k:SK}{x:QO}{lo hi mx:Option QO}{r:AV}(h:∀ t,((k=.str/\P.underlying t=some .string)\/∃ e m,k=.sl m/\P.underlying t=some (.slice e)/\cY P e=some m) ->
  ln P t (td r S) S (x.ev α.tm) (lo.map (·.ev α.tm)) (hi.map (·.ev α.tm)) (mx.map (·.ev α.tm))):af P w0 dr (.slice k x lo hi mx) α S r S:=by
 refine af.of rfl fun o hr=>?_;obtain⟨t,u,l1,h1,m1,rfl,rfl,rfl,rfl,rfl,ht⟩:=E0 hr;have h:=h t ht;have e:∀ z:Option Operand,(z.map qo).map (·.ev α.tm)=z.map α.ev:=fun z=>by
  cases z with
  |none=>rfl
  |some z=>simp[aI]
 rw[e,e,e,aI] at h;exact h
theorem nb {f:Nat->AV}{lo:Option QO}{d i:Int}(h:mU f lo d=some i):j6 (lo.map (·.ev f)) d=some i:=by
 cases lo with
 |none=>exact h
 |some x =>
  simp only[mU] at h;simp only[Option.map_some,j6];split at h
  ·grind
  ·grind
theorem Nk {k:SK}{x:QO}{f:Nat->AV}{df:List DE}{lo hi mx:Option QO}{r:AV}(h:S7 k (x.ev f) f lo hi mx=some r):af P w0 dr (.slice k x lo hi mx) ⟨f,df⟩ S r S:=by
 refine af.ZK fun t ht=>?_;simp only;unfold S7 at h;split at h
 ·simp only[Option.map_none];split at h
  ·rename_i s hs;split at h
   ·rename_i l hh h1 h2;split at h
    ·rename_i hd;have hd:=of_decide_eq_true hd;obtain rfl:=oJ_ h;rcases ht with ⟨_,ht⟩|⟨e,m,hk,_⟩
     ·rw[hs];simp only[ln,ht,nb h1,nb h2];exact⟨hd.1,hd.2.1,hd.2.2,rfl,rfl⟩
     ·grind
    ·grind
   ·grind
  ·rename_i m ex rows hs;split at h
   ·rename_i l hh h1 h2;split at h
    ·rename_i hd;simp only[Bool.and_eq_true] at hd;have eQ:=of_decide_eq_true hd.1;have jq:=gA hd.2;obtain rfl:=oJ_ h;rcases ht with ⟨hk,_⟩|⟨e,m',hk,ht,hz⟩
     ·grind
     ·injection hk with hk;subst hk;rw[hs];simp only[ln,ht,nb h1,nb h2,hz];exact⟨fun row hr=>by grind,rfl,eQ.1,eQ.2.1,eQ.2.2,rfl,rfl⟩
    ·grind
   ·grind
  ·rename_i m kk sz off len cx hs;split at h
   ·rename_i hh h2;split at h
    ·split at h
     ·rename_i hd;simp only[Bool.and_eq_true] at hd;have eQ:=of_decide_eq_true hd.1;have jq:=Nat.eq_of_beq_eq_true hd.2;obtain rfl:=oJ_ h;rcases ht with ⟨hk,_⟩|⟨e,m',hk,ht,hz⟩
      ·grind
      ·injection hk with hk;subst hk;rw[hs];simp only[ln,ht,nb h2,hz,Option.map_none];exact⟨by grind,eQ.1,eQ.2,rfl,rfl⟩
     ·grind
    ·rename_i y;split at h
     ·rename_i ik l hl;split at h
      ·rename_i hd;simp only[Bool.and_eq_true] at hd;have eQ:=of_decide_eq_true hd.1;have jq:=Nat.eq_of_beq_eq_true hd.2;rcases ht with ⟨hk,_⟩|⟨e,m',hk,ht,hz⟩
       ·grind
       ·injection hk with hk;subst hk;rw[hs];simp only[ln,ht,nb h2,hz,Option.map_some,hl];split at h
        ·rename_i he;obtain rfl:=oJ_ h;have he:=of_decide_eq_true he;exact⟨by grind,eQ.1,eQ.2.1,eQ.2.2,fun _=>⟨rfl,rfl⟩,fun aA=>by omega⟩
        ·rename_i he;obtain rfl:=oJ_ h;have he:=of_decide_eq_false he;exact⟨by grind,eQ.1,eQ.2.1,eQ.2.2,fun hq=>absurd hq he,fun _=>⟨rfl,rfl⟩⟩
      ·grind
     ·grind
   ·grind
  ·grind
 ·rename_i z;simp only[Option.map_some];split at h
  ·rename_i ik c y hz;split at h
   ·rename_i ik' hh hy;split at h
    ·rename_i m ex rows hs;split at h
     ·rename_i l h1;split at h
      ·rename_i hd;simp only[Bool.and_eq_true] at hd;have eQ:=of_decide_eq_true hd.1;have jq:=gA hd.2;obtain rfl:=oJ_ h;rcases ht with ⟨hk,_⟩|⟨e,m',hk,ht,nZ⟩
       ·grind
       ·injection hk with hk;subst hk;rw[hs,hz];simp only[ln,ht,nb h1,nZ,Option.map_some,hy];exact⟨fun row hr=>by grind,rfl,eQ.1,eQ.2.1,eQ.2.2.1,eQ.2.2.2,rfl,rfl⟩
      ·grind
     ·grind
    ·rename_i m kk sz off len cx hs;split at h
     ·rename_i l h1;split at h
      ·rename_i hd;simp only[Bool.and_eq_true] at hd;have eQ:=of_decide_eq_true hd.1;have jq:=Nat.eq_of_beq_eq_true hd.2;obtain rfl:=oJ_ h;rcases ht with ⟨hk,_⟩|⟨e,m',hk,ht,nZ⟩
       ·grind
       ·injection hk with hk;subst hk;rw[hs,hz];simp only[ln,ht,nb h1,nZ,Option.map_some,hy];exact⟨by grind,eQ.1,eQ.2.1,eQ.2.2.1,eQ.2.2.2,rfl,rfl⟩
      ·grind
     ·grind
    ·grind
   ·grind
  ·grind
theorem af.ahu {op:BinOp}{bk:BK}{x y:QO}{a b r:Value}(hx:x.ev α.tm=.v a) (hy:y.ev α.tm=.v b) (h:∀ (t:TypeId) (u v:Operand) (w:World),(eqGuard op t u v a b).run P w=.ok () w/\(binOp op t a b).run P w=.ok r w):af P w0 dr (.bin op bk x y) α S (.v r) S:=by
 have key:∀ {n:Nat}{o:Oper}(β:AA) (T:ae),res P.toTables o.op=some (.bin op bk x y)->x.ev β.tm=.v a->y.ev β.tm=.v b->ez P w0 n o β T (.v r) T:=by
  intro n o β T hr hx hy;obtain⟨t,u,v,s,ho,rfl,rfl,_⟩:=oU hr;rw[aI] at hx hy;refine aQ.ops (aQ.quiet fun A g c w hS hA=>⟨r,?_,.v⟩) fun c e=>by grind
  have e1:=hA.ev u;have e2:=hA.ev v;rw[hx] at e1;rw[hy] at e2;simp only[execOp,ho,bI e1,bI e2,Sem.run_bind,(h t u v w).1,Result.andThen_ok,(h t u v w).2,Sem.run_pure]
 cases dr with
 |false=>exact fun n o hr=>key α S hr hx hy
 |true =>
  intro n o hr;obtain⟨t,u,v,s,ho,hu,hv,_⟩:=oU hr;have hk:∀ z ∈ o.op.operands,(α.only (cG o)).ev z=α.ev z:=fun z hz=>eH fun t e=>en (by grind);have h1:(α.only (cG o)).ev u=α.ev u:=hk u (by rw[ho];simp[Op.operands]);have h2:(α.only (cG o)).ev v=α.ev v:=hk v (by rw[ho];simp[Op.operands]);have h3:∀ T,ez P w0 n o (α.only (cG o)) T (.v r) T:=fun T=>key _ T hr (by grind[aI]) (by grind[aI]);exact⟨h3 S,fun _=>⟨rfl,h3⟩,fun _=>rfl⟩
theorem PW {op:BinOp}{k k':IntKind}{a b c:Int}(h:Nj op k a k' b=some c) (t:TypeId) (u v:Operand) (w:World):(eqGuard op t u v (.int k a) (.int k' b)).run P w=.ok () w/\(binOp op t (.int k a) (.int k' b)).run P w=.ok (.int k c) w:=by
 unfold Nj at h;split at h
 ·split at h
  ·rename_i hb;have hb:=of_decide_eq_false hb;obtain rfl:=oJ_ h;exact⟨rfl,by simp[binOp,Op.shift,hb]⟩
  ·grind
 ·split at h
  ·rename_i hb;have hb:=of_decide_eq_false hb;obtain rfl:=oJ_ h;exact⟨rfl,by simp[binOp,Op.shift,hb]⟩
  ·grind
 ·split at h
  ·rename_i hk;have hk:=of_decide_eq_true hk;subst hk;obtain rfl:=oJ_ h;exact⟨rfl,by simp[binOp,Op.intBits]⟩
  ·grind
 ·split at h
  ·rename_i hk;have hk:=of_decide_eq_true hk;subst hk;obtain rfl:=oJ_ h;exact⟨rfl,by simp[binOp,Op.intBits]⟩
  ·grind
 ·split at h
  ·rename_i hk;have hk:=of_decide_eq_true hk;subst hk;obtain rfl:=oJ_ h;exact⟨rfl,by simp[binOp,Op.intBits]⟩
  ·grind
 ·split at h
  ·rename_i hk;have hk:=of_decide_eq_true hk;subst hk;obtain rfl:=oJ_ h;exact⟨rfl,by simp[binOp,Op.intBits]⟩
  ·grind
 ·split at h
  ·rename_i hk hb;have hk:=of_decide_eq_true hk;have hb:=of_decide_eq_false hb;subst hk;obtain rfl:=oJ_ h;exact⟨rfl,by simp[binOp,Op.intDiv,hb]⟩
  ·grind
 ·split at h
  ·rename_i hk hb;have hk:=of_decide_eq_true hk;have hb:=of_decide_eq_false hb;subst hk;obtain rfl:=oJ_ h;exact⟨rfl,by simp[binOp,Op.intDiv,hb]⟩
  ·grind
 ·grind
theorem Nl {op:BinOp}{bk:BK}{x y:QO}{f:Nat->AV}{df:List DE}{r:AV}(h:S6 dr op bk y (x.ev f) (y.ev f)=some r):af P w0 dr (.bin op bk x y) ⟨f,df⟩ S r S:=by
 unfold S6 at h;split at h
 ·rename_i e he;obtain rfl:=oJ_ h;exact af.bit he
 ·split at h
  ·rename_i k i k' j h1 h2;split at h
   ·rename_i c hc hk;have hk:=of_decide_eq_true hk;subst hk;obtain rfl:=oJ_ h;exact af.X5 h1 h2 hc
   ·grind
   ·split at h
    ·rename_i c hc;obtain rfl:=oJ_ h;exact af.ahu h1 h2 (PW hc)
    ·grind
  ·rename_i s t h1 h2;split at h
   ·rename_i hl;obtain rfl:=oJ_ h;exact af.cat h1 h2 (Nat.le_of_ble_eq_true (by grind))
   ·grind
  ·split at h
   ·split at h
    ·rename_i b hb;split at h
     ·rename_i d hd;obtain rfl:=oJ_ h;exact af.ahj hb hd
     ·grind
    ·grind
   ·split at h
    ·rename_i b hb;split at h
     ·rename_i d hd;obtain rfl:=oJ_ h;exact af.nil hb hd
     ·grind
    ·grind
   ·grind
theorem af.ahv {len n:Nat}{x i:QO}{row:List AV}{ik:IntKind}{j:Int}(h1:x.ev α.tm=.ip row) (h2:i.ev α.tm=.v (.int ik j)) (h3:0<=j) (h4:j < len):af P w0 dr (.ph len n x i) α S (.ip (row.drop (j.toNat*n))) S:=by
 refine af.of rfl fun o hr=>?_;cases o<;>simp only[res,bE,dS] at hr<;>(repeat' split at hr)<;>(try cases hr)
 rw[aI] at h1 h2;simp only[a8,h1,h2,‹P.underlying _=_›,‹cY P _=_›];exact⟨h3,h4,rfl,rfl⟩
theorem af.k_ {len n:Nat}{x i:QO}{k sz p q:Nat}{ik:IntKind}{j:Int}(h1:x.ev α.tm=.pt k sz p q) (h2:i.ev α.tm=.v (.int ik j)) (h3:0<=j) (h4:j < len):af P w0 dr (.ph len n x i) α S (.pt k sz p (q+j.toNat*n)) S:=by
 refine af.of rfl fun o hr=>?_;cases o<;>simp only[res,bE,dS] at hr<;>(repeat' split at hr)<;>(try cases hr)
 rw[aI] at h1 h2;simp only[a8,h1,h2,‹P.underlying _=_›,‹cY P _=_›];exact⟨h3,h4,rfl,rfl⟩
theorem Ga {q:ee}{f:Nat->AV}{df:List DE}{r:AV}(h:tR dr q f=some r):af P w0 dr q ⟨f,df⟩ S r S:=by
 have quiet:∀ {q:ee},(match EZ q with|true=>(match ja q f ae.none_ with|some (r,_)=>some r|none=>none)|false=>none)=some r->af P w0 dr q ⟨f,df⟩ S r S:=fun {q} h=>by
  split at h
  ·rename_i hp;split at h
   ·rename_i r' S1 hq;obtain rfl:=oJ_ h;exact af.quiet (IG hp hq S)
   ·grind
  ·grind
 cases q with
 |bin op bk x y=>exact Nl h
 |neg x =>
  simp only[tR] at h;split at h
  ·rename_i hx;obtain rfl:=oJ_ h;exact af.neg hx
  ·grind
 |conv k x =>
  simp only[tR] at h;split at h
  ·rename_i hx;obtain rfl:=oJ_ h;exact af.conv hx
  ·grind
 |sD x =>
  simp only[tR] at h;split at h
  ·rename_i hx;obtain rfl:=oJ_ h;exact af.sD hx
  ·grind
 |copy sz x y =>
  simp only[tR] at h;split at h
  ·rename_i hx hy;obtain rfl:=oJ_ h;exact af.ahh hx hy
  ·grind
 |ox m x i =>
  simp only[tR] at h;split at h
  ·rename_i ik j hi;split at h
   ·rename_i ex rows hx;split at h
    ·rename_i ha;split at h
     ·rename_i row hr;obtain rfl:=oJ_ h;exact af.ind hx hi hr (gA ha)
     ·grind
    ·grind
   ·rename_i k m' off len cx hx;split at h
    ·rename_i hb;simp only[Bool.and_eq_true] at hb;have h1:=Nat.eq_of_beq_eq_true hb.1;have h2:=of_decide_eq_true hb.2;subst h1;obtain rfl:=oJ_ h;exact af.X6 hx hi h2.1 h2.2
    ·grind
   ·grind
  ·grind
 |ph len n x i =>
  simp only[tR] at h;split at h
  ·rename_i ik j hi;split at h
   ·rename_i hd;have hd:=of_decide_eq_true hd;split at h
    ·rename_i row hx;obtain rfl:=oJ_ h;exact af.ahv hx hi hd.1 hd.2
    ·rename_i k sz p q hx;obtain rfl:=oJ_ h;exact af.k_ hx hi hd.1 hd.2
    ·grind
   ·grind
  ·grind
 |yv x i =>
  simp only[tR] at h;split at h
  ·rename_i hx hi;split at h
   ·rename_i b hb;obtain rfl:=oJ_ h;exact af.RQ hx hi hb
   ·grind
  ·grind
 |oJ len m k x i =>
  simp only[tR] at h;split at h
  ·rename_i hx hi;split at h
   ·rename_i hd;have hd:=of_decide_eq_true hd;exact af.oJ hx hi h hd.1 hd.2
   ·grind
  ·grind
 |slice k x lo hi mx=>exact Nk h
 |len str x =>
  simp only[tR] at h;split at h
  ·rename_i m hm;obtain rfl:=oJ_ h;exact af.len hm
  ·split at h
   ·obtain rfl:=oJ_ h;exact af.pE (by assumption)
   ·grind
 |min x y =>
  simp only[tR] at h;split at h
  ·rename_i k a k' b hx hy;split at h
   ·rename_i hd;have hd:=of_decide_eq_true hd;subst hd;obtain rfl:=oJ_ h;exact af.min hx hy
   ·grind
  ·grind
 |max x y =>
  simp only[tR] at h;split at h
  ·rename_i k a k' b hx hy;split at h
   ·rename_i hd;have hd:=of_decide_eq_true hd;subst hd;obtain rfl:=oJ_ h;exact af.max hx hy
   ·grind
  ·grind
 |_=>exact quiet h
end
mutual
def kz:Tm->Prop
 |⟨k,i,n,a⟩=>a.length<=6/\n.size<=1099511627776/\jg a
def jg:List Tm->Prop
 |[]=>True
 |x::l=>kz x/\jg l
end
theorem jg.mem:∀ {l:List Tm},jg l->∀ x ∈ l,kz x
 |y::l,h,x,hx=>by
  rw[jg] at h;rcases List.mem_cons.1 hx with rfl|hx
  ·grind
  ·exact h.2.mem x hx
theorem kz.out {t:Tm}(h:kz t):t.a.length<=6/\t.n.size<=1099511627776/\jg t.a:=by
 obtain⟨k,i,n,a⟩:=t;rw[kz] at h;exact h
def rf (N:bB):Prop:=∀ i,i < N.length->kz (tn N i)
theorem rf.push {N:bB}(h:rf N) {t:Tm}{l:List Nat}(ht:kz t):rf (N++[(t,l)]):=by
 intro i hi;by_cases e:i < N.length
 ·have hp:∀ i,i < N.length->(N++[(t,l)])[i]?=N[i]?:=fun i hi=>List.getElem?_append_left hi;rw[(eg hp e).1];exact h i e
 ·have:i=N.length:=by grind
  subst this;rw[kc.1];exact ht
mutual
theorem AX:∀ (N:bB) (t:Tm),rf N->kz t->rf (mD N t).1/\(mD N t).1.length<=N.length+dk t
 |N,⟨k,i,n,a⟩,h,ht=>by
  have ht':=ht;rw[kz] at ht;rw[mD,dk];split
  ·grind
  ·obtain⟨h1,h2⟩:=Cn N a h ht.2.2;exact⟨h1.push ht',by grind⟩
theorem Cn:∀ (N:bB) (l:List Tm),rf N->jg l->rf (fh N l).1/\(fh N l).1.length<=N.length+bP l
 |N,[],h,_=>by grind[fh,bP]
 |N,x::l,h,ht=>by
  rw[jg] at ht;obtain⟨h1,h2⟩:=AX N x h ht.1;obtain⟨k1,k2⟩:=Cn _ l h1 ht.2;rw[fh,bP];exact⟨k1,by grind⟩
end
def Gb (N:bB):Prop:=∀ (i:Nat) (t:Tm) (l:List Nat),N[i]?=some (t,l)->l.length<=6/\t.a.length<=6/\t.n.size<=1099511627776
theorem Gb.of {N:bB}(g:jT N) (h:rf N):Gb N:=by
 intro i t l hi;have aA:=(List.getElem?_eq_some_iff.1 hi).1;have h1:=mh g aA;have h2:=(h i aA).out;rw[sW aA] at hi;simp only[oI_,pI_] at hi;obtain⟨rfl,rfl⟩:=hi;exact⟨by omega,h2.1,h2.2.1⟩
def zy:List (Tm × Tm)->Nat
 |[]=>0
 |e::l=>dk e.1+dk e.2+zy l
inductive pN:List (Tm × Tm)->PS->Bool->PS->Prop
 |nil {s:PS}:pN [] s true s
 |no {a b:Tm}{l:List (Tm × Tm)}{s:PS}{m:Nat}{j:JS}(h:fO (bM (bM s a).1 b).1.N m [((bM s a).2,(bM (bM s a).1 b).2)] (bM (bM s a).1 b).1.js=some (false,j)) :
   pN ((a,b)::l) s false ⟨(bM (bM s a).1 b).1.N,(bM (bM s a).1 b).1.vs,j⟩
 |go {a b:Tm}{l:List (Tm × Tm)}{s s':PS}{m:Nat}{j:JS}{r:Bool}(h:fO (bM (bM s a).1 b).1.N m [((bM s a).2,(bM (bM s a).1 b).2)] (bM (bM s a).1 b).1.js=some (true,j))
   (k:pN l ⟨(bM (bM s a).1 b).1.N,(bM (bM s a).1 b).1.vs,j⟩ r s'):pN ((a,b)::l) s r s'
theorem PX {E:List (Tm × Tm)}:∀ (l:List (Tm × Tm)) (done:List (Tm × Tm)) (s:PS) (D:List (Nat × Nat)) (c:Nat->Nat),(∀ e ∈ l,e ∈ E/\(eE e.1/\kz e.1)/\eE e.2/\kz e.2)->rf s.N->s.N.length+zy l<=100000000000->nV E s.N D c [] s.js->nW s->(∀ p ∈ D,p.1 < s.N.length/\p.2 < s.N.length) ->
  (∀ e ∈ done,∃ p ∈ D,p.1 < s.N.length/\p.2 < s.N.length/\tn s.N p.1=e.1/\tn s.N p.2=e.2) ->
  ∃ b s',pN l s b s'/\(b=false->¬ ∃ f,uG E f)/\(b=true->∃ D' c',nV E s'.N D' c' [] s'.js/\nW s'/\rf s'.N/\s'.N.length<=100000000000/\∀ e ∈ done++l,∃ p ∈ D',p.1 < s'.N.length/\p.2 < s'.N.length/\tn s'.N p.1=e.1/\tn s'.N p.2=e.2)
 |[],done,s,D,c,_,hA,hZ,hJ,hV,hD,hd=>⟨true,s,.nil,fun h=>(by grind),fun _=>⟨D,c,hJ,hV,hA,by grind,by grind⟩⟩
 |(a,b)::l,done,s,D,c,he,hA,hZ,hJ,hV,hD,hd=>by
  obtain⟨e1,⟨w1,o1⟩,w2,o2⟩:=he (a,b) (by simp);simp only at w1 w2 o1 o2;rw[zy] at hZ;simp only at hZ;obtain⟨z1,z2⟩:=AX s.N a hA o1;obtain⟨z3,z4⟩:=AX _ b z1 o2;obtain⟨p1,p2,p3,p4⟩:=oZ s a hV w1;obtain⟨x1,x2,x3⟩:=AN s.N a hJ.gi.g w1;obtain⟨q1,q2,q3,q4⟩:=oZ (bM s a).1 b p3 w2;rw[<-p1,<-p2] at x2 x3;rw[<-p1] at x1;obtain⟨y1,y2,y3⟩:=AN (bM s a).1.N b x1.g w2;rw[<-q1,<-q2] at y2 y3;rw[<-q1] at y1;rw[<-p1] at z2 z3 z4;rw[<-q1] at z3 z4;obtain⟨s2,qY⟩:∃ s2,s2=(bM (bM s a).1 b).1:=⟨_,rfl⟩;obtain⟨x,hx⟩:∃ x,x=(bM s a).2:=⟨_,rfl⟩;obtain⟨y,hy⟩:∃ y,y=(bM (bM s a).1 b).2:=⟨_,rfl⟩;have key:∀ {r:Bool}{s':PS},(∃ m j,fO s2.N m [(x,y)] s2.js=some (false,j)/\r=false/\s'=⟨s2.N,s2.vs,j⟩)\/(∃ m j,fO s2.N m [(x,y)] s2.js=some (true,j)/\pN l ⟨s2.N,s2.vs,j⟩ r s')->pN ((a,b)::l) s r s':=by
   intro r s' h;subst qY hx hy;rcases h with ⟨m,j,h1,rfl,rfl⟩|⟨m,j,h1,h2⟩
   ·exact .no h1
   ·exact .go h1 h2
  rw[<-qY] at q3 q4 y1 y2 y3 z3 z4;rw[<-hx] at x2 x3;rw[<-hy] at y2 y3;have tx:tn s2.N x=a:=by rw[y1.tn x2,x3]
  have Bi:x < s2.N.length:=Nat.lt_of_lt_of_le x2 y1.le;have hE:tr s.N s2.N:=x1.trans y1;have hG:Grown s s2:=p4.trans q4;have hJ2:=hJ.grow hD hE hG Bi y2 (by grind);clear qY hx hy p1 p2 p3 p4 q1 q2 x1 x2 x3;have hK:∀ i,i < s2.N.length->(ks s2.N i).length<=6:=fun i hi=>by rw[mh hE.g hi];exact (z3 i hi).out.1
  obtain⟨f,r,j,j1,j2,j3⟩:=WA hK _ _ rfl rfl (by grind[C6]) hJ2;cases r with
  |false=>exact⟨false,_,key (.inl ⟨f,j,j1,rfl,rfl⟩),fun _=>j3 rfl,fun h=>by grind⟩
  |true =>
   obtain⟨c',hJ3⟩:=j2 rfl;have hl:s2.js.up.length=s2.N.length:=q3.up;obtain⟨r,s',k1,k2,k3⟩:=PX l (done++[(a,b)]) ⟨s2.N,s2.vs,j⟩ ((x,y)::D) c' (fun e h=>he e (by grind)) z3 (by grind) hJ3 ⟨q3.vs,hJ3.len,q3.nd⟩ (fun p hp=>by
    rcases List.mem_cons.1 hp with rfl|hp
    ·grind
    ·obtain⟨h1,h2⟩:=hD p hp;have:=hE.le;exact⟨Nat.lt_of_lt_of_le h1 this,Nat.lt_of_lt_of_le h2 this⟩) (fun e h=>by
    rcases List.mem_append.1 h with h|h
    ·obtain⟨p,h1,h2,h3,h4,h5⟩:=hd e h;have:=hE.le;exact⟨p,by grind,Nat.lt_of_lt_of_le h2 this,Nat.lt_of_lt_of_le h3 this,by rw[hE.tn h2];exact h4,by rw[hE.tn h3];exact h5⟩
    ·obtain rfl:=List.mem_singleton.1 h;exact⟨(x,y),by simp,Bi,y2,tx,y3⟩)
   exact⟨r,s',key (.inr ⟨f,j,j1,k1⟩),k2,fun e=>by
    obtain⟨D',c',h1,h2,h4,h5,h3⟩:=k3 e;exact⟨D',c',h1,h2,h4,h5,fun e he=>h3 e (by grind)⟩⟩
theorem Gc:jT []:=⟨(fun i hi=>by grind),fun i hi=>(by grind),fun i hi=>(by grind),fun i j hi=>by grind⟩
theorem nV.start {E:List (Tm × Tm)}:nV E [] [] id [] ⟨[],[],[]⟩ :=
 ⟨⟨Gc,fun i j hi=>(by grind),fun p hp=>(by grind),fun p hp=>(by grind),fun i j hi=>by grind⟩,⟨fun _=>0,fun i hi=>(by grind),fun i hi=>(by grind),fun i hi=>(by grind),fun i hi=>(by grind),fun i hi=>by grind⟩,rfl,
  fun C i h=>(by cases h),fun C hC=>(by grind),fun C hC=>(by grind),fun C _=>rfl,fun C _=>rfl⟩
section
variable {E:List (Tm × Tm)}{N:bB}{D:List (Nat × Nat)}{c:Nat->Nat}{s:JS}
theorem nV.ZL (h:nV E N D c [] s):EY N c s.sh:=⟨h.pos,fun C hC e s' hs=>by
 have h1:=h.vQ C hC e;rw[hs] at h1;exact h1,fun i hi j hj=>Nat.lt_trans (h.gi.g.lt i hi j hj) hi⟩
theorem W_ {sh:List (Int × Int)}(hC:qV E N c) (hS:EY N c sh) (hn:∀ i,i < N.length->(tn N i).k ≠ 1->∃ t,b9 sh (c i)=some t) (hc:∀ i,i < N.length->c (c i)=c i/\c i < N.length) (hW:∀ i,i < N.length->∃ m,kS N c (b9 sh) m (c i)) :
  ∃ r,qX N c r/\∀ i,i < N.length->kS N c (b9 sh) (r (c i)) (c i):=by
 have hl:∀ C,∃ m,(∃ m,kS N c (b9 sh) m C)->kS N c (b9 sh) m C/\∀ k,k < m->¬ kS N c (b9 sh) k C:=fun C=>by
  by_cases h:∃ m,kS N c (b9 sh) m C
  ·obtain⟨n,hn⟩:=h;obtain⟨m,h1,h2⟩:=S3 (p:=fun m=>kS N c (b9 sh) m C) n hn;exact⟨m,fun _=>⟨h1,h2⟩⟩
  ·exact⟨0,fun h'=>absurd h' h⟩
 refine⟨fun C=>(hl C).choose,fun i hi hk j hj=>?_,fun i hi=>((hl (c i)).choose_spec (hW i hi)).1⟩;obtain⟨t,ht⟩:=hn i hi hk;obtain⟨t1,t2,t3⟩:=hS.at_ (c i) (hc i hi).2 (hc i hi).1 t ht;have h1:=((hl (c i)).choose_spec (hW i hi)).1;obtain⟨_,a2⟩:=hC.al i t hi t1 t2.symm hk t3;have fc:c j ∈ (ks N t).map c:=by grind
 obtain⟨j',lx,e⟩:=List.mem_map.1 fc;have hjl:j' < N.length:=hS.Vk t t1 j' lx;show (hl (c j)).choose < (hl (c i)).choose;generalize (hl (c i)).choose=m at h1;cases m with
 |zero=>exact h1.elim
 |succ m =>
  have h2:=h1 t ht j' lx;rw[e] at h2;have h3:=((hl (c j)).choose_spec ⟨m,h2⟩).2;exact Nat.lt_succ_of_le (Nat.le_of_not_lt fun h=>h3 m h h2)
end
theorem ZM {E:List (Tm × Tm)}{N:bB}{D:List (Nat × Nat)}{c:Nat->Nat}{s:JS}(h:nV E N D c [] s) (hu:∃ f,uG E f):∃ rk,Vl N c s.sh rk:=by
 obtain⟨r,hr⟩:=Pa h.gi.g h.gi.sound hu;refine⟨r,fun C hC e t ht j hj=>?_⟩;obtain⟨t1,t2,t3⟩:=h.ZL.at_ C hC e t ht;have:=hr t t1 t3 j hj
 rwa [t2] at this
theorem LF {N:bB}{c:Nat->Nat}{sh:Nat->Option Nat}:∀ (n:Nat),(∀ i,i < n->∃ m,kS N c sh m (c i))->∃ m,∀ i,i < n->kS N c sh m (c i)
 |0,_=>⟨0,fun i hi=>by omega⟩
 |n+1,h=>by
  obtain⟨m,hm⟩:=LF n fun i hi=>h i (by omega);obtain⟨m',hm'⟩:=h n (by omega);refine⟨max m m',fun i hi=>?_⟩;by_cases e:i < n
  ·exact (hm i e).le (Nat.le_max_left _ _)
  ·have:i=n:=by omega
   subst this;exact hm'.le (Nat.le_max_right _ _)
section
variable {N:bB}{c h:Nat->Nat}{sh ls vs:List (Int × Int)}{kn:KN}
theorem IH {σ:Int->Tm}{M:Nat}{p:Int->Bool}(g:jT N) (hS:EY N c sh) (hp:∀ v,p v=true ↔ σ v ≠ vr v)
  (hv:∀ v k,aB vs v=some k->0<=k/\k.toNat < N.length/\kS N c (b9 sh) M (c k.toNat)/\σ v=TF N c (b9 sh) (uS ls) M (c k.toNat)/\aB kn (c k.toNat:Int)=some (tO (σ v))) :
  ∀ (l:List Int) (up:List Nat) (acc:List Bd),(∀ v ∈ l,∃ k,aB vs v=some k)->UF up c h->up.length=N.length ->
   tP N sh ls vs kn M l up acc=some (if (l.filter p).any (fun v=>lz (σ v)) then none else some (acc++(l.filter p).map fun v=>⟨v,σ v⟩))
 |[],up,acc,_,_,_=>by rw[tP];simp
 |v::l,up,acc,hk,hU,hl=>by
  obtain⟨k,dV⟩:=hk v (by simp);obtain⟨k0,k1,k2,k3,k4⟩:=hv v k dV;obtain⟨u1,r1,Bn,l1⟩:=hU.iq (k:=k.toNat) (by omega);have ck:c k.toNat < N.length:=by have:=(hU.rt k.toNat (by omega)).2;omega
  have cc:c (c k.toNat)=c k.toNat:=hU.cc (by omega);rw[tP,dV];simp only[if_pos k0,r1];have hb:(aB sh (c k.toNat:Int)=none/\(aB ls (c k.toNat:Int)).getD 0=v) ↔ σ v=vr v:=by
   rw[k3];cases M with
   |zero=>exact k2.elim
   |succ M =>
    rw[TF];cases e:aB sh (c k.toNat:Int) with
    |none =>
     have f:b9 sh (c k.toNat)=none:=by grind[b9]
     rw[f];simp only[true_and,uS,vr,Tm.mk.injEq,and_true]
    |some s =>
     have f:b9 sh (c k.toNat)=some s.toNat:=by grind[b9]
     obtain⟨s1,s2,s3⟩:=hS.at_ _ ck cc _ f;rw[f];simp only[vr,Tm.mk.injEq];exact⟨(fun h=>by grind),fun h=>absurd h.1 s3⟩
  rw[k4,Option.getD_some];simp only[W9];by_cases e:σ v=vr v
  ·rw[if_pos (hb.2 e),IH g hS hp hv l u1 acc (fun w hw=>hk w (by grind)) Bn (by omega)];have:p v=false:=by grind
   rw[List.filter_cons_of_neg (by grind)]
  ·rw[if_neg (fun h=>e (hb.1 h))];have:p v=true:=(hp v).2 e;rw[List.filter_cons_of_pos this];cases ES:lz (σ v) with
   |true=>simp[ES]
   |false =>
    obtain⟨u2,m2,uJ,l2⟩:=PT (ls:=ls) g hS M (c k.toNat) u1 k2 Bn (by omega) ck cc;rw[<-k3] at m2;simp only[m2,Bool.false_eq_true,if_false];rw[IH g hS hp hv l u2 _ (fun w hw=>hk w (by grind)) uJ l2];simp[ES]
end
theorem Xa (E:List (Tm × Tm)) (hw:∀ e ∈ E,(eE e.1/\kz e.1)/\eE e.2/\kz e.2) (hz:zy E<=100000000000):∃ b s',pN E ⟨[],[],⟨[],[],[]⟩⟩ b s'/\(b=false->lX lz E=([],13)) /\
  (b=true->nW s'/\rf s'.N/\s'.N.length<=100000000000/\∃ b2 up kn,uQ s'.N s'.js.sh (List.range s'.N.length) s'.js.up []=some (b2,up,kn)/\(b2=false->lX lz E=([],13)) /\
   (b2=true->∀ l,uH l->(∀ v,v ∈ l ↔ v ∈ s'.vs.map (·.1))->∃ M ro,tP s'.N s'.js.sh s'.js.ls s'.vs kn M l up []=some ro/\lX lz E=(match ro with|none=>([],6)|some o=>(o,0)))):=by
 obtain⟨b,s',h1,h2,h3⟩:=PX (E:=E) E [] ⟨[],[],⟨[],[],[]⟩⟩ [] id (fun e he=>⟨he,hw e he⟩) (fun i hi=>by grind) (by grind) .start ⟨fun v=>rfl,rfl,by simp⟩ (fun p hp=>by grind) (fun e he=>by grind);refine⟨b,s',h1,fun e=>FG (h2 e),fun e=>?_⟩;obtain⟨D,c,hJ,hV,qh,hLe,hD⟩:=h3 e;rw[List.nil_append] at hD;obtain⟨hh,hU⟩:=hJ.uf;have hS:=hJ.ZL;refine⟨hV,qh,hLe,?_⟩;obtain⟨b2,up,kn,m1,uJ,l2,hK,_,m5,m6⟩:=IE (lo:=uS s'.js.ls) hS (List.range s'.N.length) s'.js.up [] (fun j hj=>List.mem_range.1 hj) hU hJ.len (fun C q hq=>by cases hq);refine⟨b2,up,kn,m1,fun e=>FG fun hu=>m6 e (ZM hJ hu),fun e l hl hm=>?_⟩;have hC:qV E s'.N c:=hJ.gi.closed hD;have jz:∀ i,i < s'.N.length->c (c i)=c i/\c i < s'.N.length:=fun i hi=>⟨hU.cc (by rw[hJ.len];exact hi),by have:=(hU.rt i (by rw[hJ.len];exact hi)).2;rw[hJ.len] at this;exact this⟩;have zz:∀ i,i < s'.N.length->∃ m,kS s'.N c (b9 s'.js.sh) m (c i)/\aB kn (c i:Int)=some (tO (TF s'.N c (b9 s'.js.sh) (uS s'.js.ls) m (c i))):=fun i hi=>by
  obtain⟨q,hq⟩:=m5 e i (List.mem_range.2 hi);obtain⟨m,k1,k2⟩:=hK _ _ hq;exact⟨m,k1,by grind⟩
 have ZN:∀ i,i < s'.N.length->(tn s'.N i).k ≠ 1->∃ t,b9 s'.js.sh (c i)=some t:=fun i hi hk=>by
  cases ht:b9 s'.js.sh (c i) with
  |some t=>exact⟨t,rfl⟩
  |none =>
   have:=hJ.vQ (c i) (jz i hi).2 (jz i hi).1;rw[ht] at this;exact absurd (this i hi rfl) hk
 obtain⟨r,hr,hrW⟩:=W_ hC hS ZN jz fun i hi=>let ⟨m,h,_⟩:=zz i hi;⟨m,h⟩
 obtain⟨M,hM⟩:=LF (sh:=b9 s'.js.sh) (c:=c) s'.N.length fun i hi=>⟨_,hrW i hi⟩;have x_:∀ (m C:Nat),C < s'.N.length->c C=C->TF s'.N c (b9 s'.js.sh) (uS s'.js.ls) m C=TF s'.N c (fun C=>if C < s'.N.length/\c C=C then b9 s'.js.sh C else none) (uS s'.js.ls) m C:=by
  intro m
  induction m with
  |zero=>intro C _ _;rfl
  |succ m ih =>
   intro C h1 h2;rw[TF,TF];simp only[if_pos (And.intro h1 h2)];cases hs:b9 s'.js.sh C with
   |none=>rfl
   |some t =>
    simp only[Tm.mk.injEq,true_and];refine List.map_congr_left fun j hj=>?_;have fc:=hS.Vk t (hS.at_ C h1 h2 t hs).1 j hj;exact ih (c j) (jz j fc).2 (jz j fc).1
 obtain⟨II,ZO⟩:∃ II:Nat->Option Nat,II=fun C=>if C < s'.N.length/\c C=C then b9 s'.js.sh C else none:=⟨_,rfl⟩
 rw[<-ZO] at x_;have lL:∀ C t,II C=some t->t < s'.N.length/\c t=C/\(tn s'.N t).k ≠ 1:=fun C t h=>by
  rw[ZO] at h;simp only at h;split at h
  ·rename_i hc;exact hS.at_ C hc.1 hc.2 t h
  ·grind
 have qY:∀ i,i < s'.N.length->II (c i)=b9 s'.js.sh (c i):=fun i hi=>by grind
 have y7:∀ i,i < s'.N.length->II (c i)=none->∀ j,j < s'.N.length->c j=c i->(tn s'.N j).k=1:=fun i hi h j hj e=>Classical.byContradiction fun hk=>by grind
 have hMe:AL s'.N c (TC s'.N c II (uS s'.js.ls) r):=R_ hC lL hr y7 fun i hi h=>by
  have h1:=hJ.aX (c i) (jz i hi).2 (jz i hi).1;have h2:=y7 i hi h;unfold uS;cases hl:aB s'.js.ls (c i:Int) with
  |none=>rw[hl] at h1;exact absurd (h2 i hi rfl) (h1 i hi rfl)
  |some v =>
   rw[hl] at h1;obtain⟨⟨j,j1,j2,j3,j4⟩,j5⟩:=h1;exact⟨j,j1,j2,j4.symm,fun j' lx e=>by grind⟩
 have ZP:=R8 hC hMe hr;have hTF:∀ {m m' C:Nat},kS s'.N c (b9 s'.js.sh) m C->kS s'.N c (b9 s'.js.sh) m' C->TF s'.N c (b9 s'.js.sh) (uS s'.js.ls) m C=TF s'.N c (b9 s'.js.sh) (uS s'.js.ls) m' C:=fun {m m' C} h h'=>by grind[Hi]
 obtain⟨σ,ZQ⟩:∃ σ,σ=C4 s'.N c (TC s'.N c II (uS s'.js.ls) r):=⟨_,rfl⟩;have U4:∀ i,i < s'.N.length->(tn s'.N i).k=1->∀ m,kS s'.N c (b9 s'.js.sh) m (c i)->σ (tn s'.N i).i=TF s'.N c (b9 s'.js.sh) (uS s'.js.ls) m (c i):=fun i hi hk m hm=>by
  rw[ZQ,AM hJ.gi.g hi hk];unfold TC;rw[<-x_ _ _ (jz i hi).2 (jz i hi).1];exact hTF ((hrW i hi).succ) hm
 rw[<-ZQ] at ZP;obtain⟨p,hp⟩:∃ p:Int->Bool,∀ v,p v=true ↔ σ v ≠ vr v:=by
  classical
  exact⟨fun v=>decide (σ v ≠ vr v),fun v=>decide_eq_true_iff⟩
 refine⟨M,_,IH (σ:=σ) (M:=M) (p:=p) hJ.gi.g hS hp (fun v k hk=>?_) l up [] (fun v hv=>qZ.1 ((hm v).1 hv)) uJ l2,?_⟩
 ·rw[hV.vs] at hk;cases hx:mC s'.N v with
  |none=>rw[hx] at hk;cases hk
  |some j =>
   rw[hx] at hk;obtain rfl:=oJ_ hk;obtain⟨a1,a2,a3⟩:=yV hx;show 0<=(j:Int)/\(j:Int).toNat < _/\kS _ _ _ M (c (j:Int).toNat)/\σ v=TF _ _ _ _ M (c (j:Int).toNat)/\aB kn (c (j:Int).toNat:Int)=_;rw[Int.toNat_natCast];obtain⟨m,w1,w2⟩:=zz j a1;have h1:=U4 j a1 a2 M (hM j a1);rw[a3] at h1;exact⟨by omega,a1,hM j a1,h1,by grind⟩
 ·have hO:yU E σ (l.filter p):=⟨ZP,wW hl,fun v=>by
   rw[List.mem_filter,hp];refine⟨fun h=>h.2,fun h=>⟨?_,h⟩⟩;rw[hm,qZ,hV.vs];cases hx:mC s'.N v with
   |some j=>exact⟨_,rfl⟩
   |none =>
    refine absurd ?_ h;rw[ZQ];exact HV fun ⟨i,h1,h2,h3⟩=>FH hx i h1 h2 h3⟩
  rw[FF hO,HW];split<;>simp
end Go.Proofs.YtbpabjmnhggajaaGreat
