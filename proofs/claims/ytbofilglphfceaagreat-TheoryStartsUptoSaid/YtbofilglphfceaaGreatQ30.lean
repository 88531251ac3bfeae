import Derived.Test.YtbofilglphfceaaGreatQ28
namespace Go.Proofs.YtbofilglphfceaaGreat
set_option linter.unusedVariables false
set_option linter.unusedSimpArgs false
open Go.RowKit
section
set_option maxRecDepth 100000
attribute [local irreducible] ah bc ad ab
def Fi.ok (f:Fi):Prop:=f.ids.length<=1099511627776
section
variable {w0:World}{ρ:Hd}
theorem yq {r:Int}{l:List Int}(h:0<=r/\r < 40/\1<=(l.length:Int)/\(l.length:Int)<=4):mX ⟨r,l⟩=mW [] l:=by
 simp only [mX]
 rw [decide_eq_true h.1,decide_eq_true h.2.1,decide_eq_true h.2.2.1,decide_eq_true h.2.2.2]
 rfl
theorem xh {r:Int}{l:List Int}(h:r < 0\/40<=r\/(l.length:Int) < 1\/4 < (l.length:Int)):mX ⟨r,l⟩=false:=by
 simp only [mX]
 rcases h with h|h|h|h
 ·rw [decide_eq_false (show ¬ 0<=r by omega)];rfl
 ·rw [decide_eq_false (show ¬ r < 40 by omega)];simp
 ·rw [decide_eq_false (show ¬ 1<=(l.length:Int) by omega)];simp
 ·rw [decide_eq_false (show ¬ (l.length:Int)<=4 by omega)];simp
theorem LU (f:Fi) (hf:f.ok):ah Tryz.prog w0 108 [fi ρ f] (.v (.bool (mX f))):=by
 obtain⟨r,l⟩:=f
 have hl:l.length<=1099511627776:=hf
 have h1:=@yq r l
 have h2:=@xh r l
 obtain⟨R,yg⟩:∃ R,R=mX ⟨r,l⟩:=⟨_,rfl⟩
 rw [<-yg] at h1 h2 ⊢
 clear yg
 refine X2.aG (by simp [Tryz.ntmps108]) (.v) ?_
 refine gq nR ?_
 repeat' (first
  |(refine bq (fun hb=>?_) (fun hb=>?_)<;>(try simp only [aq] at hb)<;>(first|refine gq nR ?_))
  |(refine aB fun m hm=>?_;(try rw [af] at hm);refine gq nR ?_)
  |(refine fq ?_))
 all_goals first
  |(exact aC (h2 (by omega)).symm)
  |skip
 have hR:R=mW [] l:=h1 (by omega)
 clear h1 h2
 refine ab.aP (σ:=Int) 1 1 [] (fun i=>[(1,.pt 0 2 0 0),(26,b8 ρ bF false l),(27,.v (.int .i64 m)),(28,.v (.int .i64 i))]) [] (fun _=>[(0,.arr 2 [Ag ρ ⟨r,l⟩] 0 true)]) (fun i=>∃ k:Nat,i=k/\k<=l.length/\R=mW (l.take k) (l.drop k)) (fun i=>l.length - i.toNat) 0 ⟨0,rfl,by simp,by simpa using hR⟩ rfl (by exact⟨sq,rfl,⟨.inl ⟨_,rfl,.arr (by exact⟨kq,trivial⟩)⟩,trivial⟩,rfl,rfl,rfl⟩) ?_
 rintro i ⟨k,hi,hk,hp⟩
 clear hR
 refine gq nR ?_
 by_cases au:k < l.length
 ·obtain⟨x,hx,aO⟩:=az au
  rw [aO,mW] at hp
  have ht:l.take k++[x]=l.take (k+1):=by rw [List.take_add_one,hx];rfl
  rw [ht] at hp
  have hC:=Jx (w0:=w0) (ρ:=ρ) (l.take k) x (by simp;omega)
  obtain⟨B,hB⟩:∃ B,B=(l.take k).contains x:=⟨_,rfl⟩
  rw [<-hB] at hC hp
  obtain⟨q,hq⟩:∃ q,q=l.take k:=⟨_,rfl⟩
  rw [<-hq] at hC
  repeat' (first
   |(refine ab.op rfl (ad.ind rfl rfl (ay (l:=l) hi hx) (aw fun _=>rfl)) ?_;refine gq nR ?_)
   |(refine ab.gen (b8 ρ bF false) rfl (ad.LV rfl rfl rfl (fun _=>rfl) (by decide) (by omega) (by omega)) (fun q2 CY=>?_);obtain rfl:q2=q:=(by rw [CY,hq,Int.toNat_zero,List.drop_zero];try (congr 1;omega));refine gq nR ?_)
   |(refine ab.a_ rfl (ad.ag rfl hC ⟨bQ _,.v,trivial⟩) (fun _=>?_) (fun _=>?_)<;>refine gq nR ?_)
   |(refine bq (fun hb=>?_) (fun hb=>?_)<;>(try simp only [aq] at hb)<;>(first|refine gq nR ?_))
   |(refine aS fun _ _=>?_;refine gq nR ?_)
   |(refine ab.ao ?_;refine gq nR ?_)
   |(refine ab.bJ ?_;refine gq nR ?_)
   |(refine fq ?_))
  all_goals first
   |(exfalso;omega)
   |(refine aC ?_;rw [hp,decide_eq_false (show ¬ 1<=x by omega)];rfl)
   |(refine aC ?_;rw [hp,show B=true by assumption];simp;done)
   |((refine ab.aL (σ:=Int) _ [] ?_ ?_ (by exact⟨sq,rfl,⟨.inl ⟨_,rfl,.arr (by exact⟨kq,trivial⟩)⟩,trivial⟩,rfl,rfl,rfl⟩)<;>first|omega|exact⟨k+1,by omega,by omega,by rw [hp,decide_eq_true (show 1<=x by omega),show B=false by assumption];rfl⟩))
 ·skip
  repeat' (first
   |(refine bq (fun hb=>?_) (fun hb=>?_)<;>(try simp only [aq] at hb)<;>(first|refine gq nR ?_))
   |(refine ab.ao ?_;refine gq nR ?_)
   |(refine fq ?_))
  all_goals first
   |(exfalso;omega)
   |(rw [hp,List.drop_eq_nil_of_le (by omega),mW];exact aC rfl)
theorem Ri (f:Fi) (hf:f.ok):ah Tryz.prog w0 213 [fi ρ f] (.v (.bool (mX f))):=by
 obtain⟨r,l⟩:=f
 have hl:l.length<=1099511627776:=hf
 have h1:=@yq r l
 have h2:=@xh r l
 obtain⟨R,yg⟩:∃ R,R=mX ⟨r,l⟩:=⟨_,rfl⟩
 rw [<-yg] at h1 h2 ⊢
 clear yg
 refine X3.aG (by simp [Tryz.ntmps213]) (.v) ?_
 refine gq md ?_
 repeat' (first
  |(refine bq (fun hb=>?_) (fun hb=>?_)<;>(try simp only [aq] at hb)<;>(first|refine gq md ?_))
  |(refine aB fun m hm=>?_;(try rw [af] at hm);refine gq md ?_)
  |(refine fq ?_))
 all_goals first
  |(exact aC (h2 (by omega)).symm)
  |skip
 have hR:R=mW [] l:=h1 (by omega)
 clear h1 h2
 refine ab.aP (σ:=Int) 1 1 [] (fun i=>[(1,.pt 0 2 0 0),(3,.v (.int .i64 i))]) [] (fun _=>[(0,.arr 2 [Ag ρ ⟨r,l⟩] 0 true)]) (fun i=>∃ k:Nat,i=k/\k<=l.length/\R=mW (l.take k) (l.drop k)) (fun i=>l.length - i.toNat) 0 ⟨0,rfl,by simp,by simpa using hR⟩ rfl (by exact⟨sq,rfl,⟨.inl ⟨_,rfl,.arr (by exact⟨kq,trivial⟩)⟩,trivial⟩,rfl,rfl,rfl⟩) ?_
 rintro i ⟨k,hi,hk,hp⟩
 clear hR
 refine gq md ?_
 by_cases au:k < l.length
 ·obtain⟨x,hx,aO⟩:=az au
  rw [aO,mW] at hp
  have ht:l.take k++[x]=l.take (k+1):=by rw [List.take_add_one,hx];rfl
  rw [ht] at hp
  have hC:=To (w0:=w0) (ρ:=ρ) (l.take k) x (by simp;omega)
  obtain⟨B,hB⟩:∃ B,B=(l.take k).contains x:=⟨_,rfl⟩
  rw [<-hB] at hC hp
  obtain⟨q,hq⟩:∃ q,q=l.take k:=⟨_,rfl⟩
  rw [<-hq] at hC
  repeat' (first
   |(refine ab.op rfl (ad.ind rfl rfl (ay (l:=l) hi hx) (aw fun _=>rfl)) ?_;refine gq md ?_)
   |(refine ab.gen (b8 ρ bF false) rfl (ad.LV rfl rfl rfl (fun _=>rfl) (by decide) (by omega) (by omega)) (fun q2 CY=>?_);obtain rfl:q2=q:=(by rw [CY,hq,Int.toNat_zero,List.drop_zero];try (congr 1;omega));refine gq md ?_)
   |(refine ab.a_ rfl (ad.ag rfl hC ⟨bQ _,.v,trivial⟩) (fun _=>?_) (fun _=>?_)<;>refine gq md ?_)
   |(refine bq (fun hb=>?_) (fun hb=>?_)<;>(try simp only [aq] at hb)<;>(first|refine gq md ?_))
   |(refine aB fun m hm=>?_;(try rw [af] at hm);refine gq md ?_)
   |(refine aS fun _ _=>?_;refine gq md ?_)
   |(refine ab.ao ?_;refine gq md ?_)
   |(refine ab.bJ ?_;refine gq md ?_)
   |(refine fq ?_))
  all_goals first
   |(exfalso;omega)
   |(refine aC ?_;rw [hp,decide_eq_false (show ¬ 1<=x by omega)];rfl)
   |(refine aC ?_;rw [hp,show B=true by assumption];simp;done)
   |((refine ab.aL (σ:=Int) _ [] ?_ ?_ (by exact⟨sq,rfl,⟨.inl ⟨_,rfl,.arr (by exact⟨kq,trivial⟩)⟩,trivial⟩,rfl,rfl,rfl⟩)<;>first|omega|exact⟨k+1,by omega,by omega,by rw [hp,decide_eq_true (show 1<=x by omega),show B=false by assumption];rfl⟩))
 ·skip
  repeat' (first
   |(refine bq (fun hb=>?_) (fun hb=>?_)<;>(try simp only [aq] at hb)<;>(first|refine gq md ?_))
   |(refine aB fun m hm=>?_;(try rw [af] at hm);refine gq md ?_)
   |(refine ab.ao ?_;refine gq md ?_)
   |(refine fq ?_))
  all_goals first
   |(exfalso;omega)
   |(rw [hp,List.drop_eq_nil_of_le (by omega),mW];exact aC rfl)
end
end
def jB (m:Nat):List (List AV)->Bool
 |[]=>true
 |r::l=>match Nat.beq r.length m with|true=>jB m l|false=>false
theorem e8 {m:Nat}:∀ {l:List (List AV)},jB m l=true->∀ r ∈ l,r.length=m
 |[],_,r,h=>by cases h
 |b::l,hp,r,h=>by
  simp only [jB] at hp
  split at hp
  ·rename_i hb
   rcases List.mem_cons.1 h with rfl|h
   ·exact Nat.eq_of_beq_eq_true hb
   ·exact e8 hp r h
  ·cases hp
def Gk (op:BinOp) (k:IntKind) (a:Int) (k':IntKind) (b:Int):Option Int:=match op with
 |.shl=>match decide (b < 0) with
  |false=>some (k.wrap (a*2 ^ (min b.toNat k.bits)))
  |true=>none
 |.shr=>match decide (b < 0) with
  |false=>some (a.fdiv (2 ^ (min b.toNat k.bits)))
  |true=>none
 |.and=>match decide (k=k') with|true=>some (k.wrap (BitVec.ofInt k.bits a &&& BitVec.ofInt k.bits b).toNat)|false=>none
 |.or=>match decide (k=k') with|true=>some (k.wrap (BitVec.ofInt k.bits a ||| BitVec.ofInt k.bits b).toNat)|false=>none
 |.xor=>match decide (k=k') with|true=>some (k.wrap (BitVec.ofInt k.bits a ^^^ BitVec.ofInt k.bits b).toNat)|false=>none
 |.andNot=>match decide (k=k') with|true=>some (k.wrap (BitVec.ofInt k.bits a &&& ~~~BitVec.ofInt k.bits b).toNat)|false=>none
 |.quo=>match decide (k=k'),decide (b=0) with|true,false=>some (k.wrap (a.tdiv b))|_,_=>none
 |.rem=>match decide (k=k'),decide (b=0) with|true,false=>some (a.tmod b)|_,_=>none
 |_=>none
def LW (dr:Bool) (op:BinOp) (bk:BK) (y:QO) (a b:AV):Option AV :=
 match Gm op bk a b with
 |some e=>some (.v (.bool e))
 |none=>match a,b with
  |.v (.int k i),.v (.int k' j)=>match arith op i j,decide (k=k') with
   |some c,true=>some (.v (.int k (k.wrap c)))
   |some _,false=>none
   |none,_=>match Gk op k i k' j with
    |some c=>some (.v (.int k c))
    |none=>none
  |.v (.string s),.v (.string t)=>match op,Nat.ble (s.size+t.size) 9223372036854775807 with
   |.add,true=>some (.v (.string (s++t)))
   |_,_=>none
  |a,_=>match bk,y with
   |.s,.c (.sl true [])=>match zh a with
    |some b=>match LA op b with
     |some d=>some (.v (.bool d))
     |none=>none
    |none=>none
   |_,_=>none
def LX (k:SK) (a:AV) (f:Nat->AV) (lo hi mx:Option QO):Option AV :=
 match mx with
 |none=>match k,a with
  |.str,.v (.string s)=>match jc f lo 0,jc f hi s.size with
   |some l,some h=>match decide (0<=l/\l<=h/\h<=s.size) with
    |true=>some (.v (.string (s.extract l.toNat h.toNat)))
    |false=>none
   |_,_=>none
  |.sl m,.sl ex rows=>match jc f lo 0,jc f hi rows.length with
   |some l,some h=>match decide (0<=l/\l<=h/\h<=rows.length) && jB m rows with
    |true=>some (.sl false ((rows.take h.toNat).drop l.toNat))
    |false=>none
   |_,_=>none
  |.sl m,.ob k sz off len cx=>match jc f hi len with
   |some h=>match lo with
    |none=>match decide (0<=h/\h<=len) && Nat.beq m sz with
     |true=>some (.ob k sz off h.toNat cx)
     |false=>none
    |some x=>match x.ev f with
     |.v (.int _ l)=>match decide (0<=l/\l<=h/\h<=len) && Nat.beq m sz with
      |true=>match decide (l=h) with
       |true=>some (.sl false [])
       |false=>some (.ob k sz (off+l.toNat) (h.toNat - l.toNat) (cx.map (· - l.toNat)))
      |false=>none
     |_=>none
   |none=>none
  |_,_=>none
 |some z=>match z.ev f,hi with
  |.v (.int _ c),some y=>match y.ev f with
   |.v (.int _ h)=>match k,a with
    |.sl m,.sl ex rows=>match jc f lo 0 with
     |some l=>match decide (0<=l/\l<=h/\h=c/\h<=rows.length) && jB m rows with
      |true=>some (.sl true ((rows.take h.toNat).drop l.toNat))
      |false=>none
     |none=>none
    |.sl m,.ob k sz off len cx=>match jc f lo 0 with
     |some l=>match decide (l=0/\h=c/\h<=len/\0<=h) && Nat.beq m sz with
      |true=>some (.ob k sz off h.toNat (some h.toNat))
      |false=>none
     |none=>none
    |_,_=>none
   |_=>none
  |_,_=>none
def qx (dr:Bool) (q:dm) (f:Nat->AV):Option AV :=
 match q with
 |.bin op bk x y=>LW dr op bk y (x.ev f) (y.ev f)
 |.neg x=>match x.ev f with
  |.v (.int k a)=>some (.v (.int k (k.wrap (0 - a))))
  |_=>none
 |.conv k x=>match x.ev f with
  |.v (.int _ a)=>some (.v (.int k (k.wrap a)))
  |_=>none
 |.pd x=>match x.ev f with
  |.v (.string a)=>some (.v (.string a))
  |_=>none
 |.qV m x i=>match i.ev f with
  |.v (.int _ j)=>match x.ev f with
   |.sl _ rows=>match jB m rows with
    |true=>match idx rows j with
     |some row=>some (.ip row)
     |none=>none
    |false=>none
   |.ob k m' off len _=>match Nat.beq m' m && decide (0<=j/\j < len) with
    |true=>some (.pt k m (off+j.toNat) 0)
    |false=>none
   |_=>none
  |_=>none
 |.ow len n x i=>match i.ev f with
  |.v (.int _ j)=>match decide (0<=j/\j < len) with
   |true=>match x.ev f with
    |.ip row=>some (.ip (row.drop (j.toNat*n)))
    |.pt k sz i q=>some (.pt k sz i (q+j.toNat*n))
    |_=>none
   |false=>none
  |_=>none
 |.sS x i=>match x.ev f,i.ev f with
  |.v (.string s),.v (.int _ j)=>match idx s.data.toList j with
   |some b=>some (.v (.int .u8 b.toNat))
   |none=>none
  |_,_=>none
 |.l8 len m k x i=>match x.ev f,i.ev f with
  |.agg l,.v (.int _ j)=>match decide (0<=j/\j < len) with
   |true=>qh k l (j.toNat*m)
   |false=>none
  |_,_=>none
 |.slice k x lo hi mx=>LX k (x.ev f) f lo hi mx
 |.copy _ x y=>match x.ev f,y.ev f with
  |.sl _ [],.sl _ []=>some (.v (.int .i64 0))
  |_,_=>none
 |.len str x=>match LY str (x.ev f) with
  |some m=>some (.v (.int .i64 m))
  |none=>match str,x.ev f with
   |false,.gr _ _ len=>some (.v (.int .i64 len))
   |_,_=>none
 |.min x y=>match x.ev f,y.ev f with
  |.v (.int k a),.v (.int k' b)=>match decide (k'=k) with
   |true=>some (.v (.int k (min a b)))
   |false=>none
  |_,_=>none
 |.max x y=>match x.ev f,y.ev f with
  |.v (.int k a),.v (.int k' b)=>match decide (k'=k) with
   |true=>some (.v (.int k (max a b)))
   |false=>none
  |_,_=>none
 |q=>match zN q with
  |true=>match gU q f ae.none_ with
   |some (r,_)=>some r
   |none=>none
  |false=>none
section
variable {P:Program}{w0:World}{o:Op}{α:AA}{S S':ae}{r:AV}{dr:Bool}
theorem E9 {k:SK}{x:QO}{lo hi mx:Option QO}(h:res P.toTables o=some (.slice k x lo hi mx)):∃ t u l1 h1 m1,o=.slice t u l1 h1 m1/\x=qo u/\lo=l1.map qo/\hi=h1.map qo/\mx=m1.map qo /\
  ((k=.str/\P.underlying t=some .string)\/∃ e m,k=.sl m/\P.underlying t=some (.slice e)/\cQ P e=some m):=by
 cases o with
 |slice t u l1 h1 m1 =>
  simp only [res,b9,dY] at h
  split at h
  ·rename_i hu
   simp only [Option.some.injEq,dm.slice.injEq] at h
   obtain⟨rfl,rfl,rfl,rfl,rfl⟩:=h
   exact⟨_,_,_,_,_,rfl,rfl,rfl,rfl,rfl,.inl ⟨rfl,hu⟩⟩
  ·rename_i e hu
   split at h
   ·rename_i m hs
    simp only [Option.some.injEq,dm.slice.injEq] at h
    obtain⟨rfl,rfl,rfl,rfl,rfl⟩:=h
    exact⟨_,_,_,_,_,rfl,rfl,rfl,rfl,rfl,.inr ⟨_,_,rfl,hu,hs⟩⟩
   ·cases h
  ·cases h
 |_ =>
  simp only [res] at h
  repeat' split at h
  all_goals cases h
theorem ad.abK {k:SK}{x:QO}{lo hi mx:Option QO}{r:AV}(h:∀ t,((k=.str/\P.underlying t=some .string)\/∃ e m,k=.sl m/\P.underlying t=some (.slice e)/\cQ P e=some m) ->
  jv P t (tO r S) S (x.ev α.tm) (lo.map (·.ev α.tm)) (hi.map (·.ev α.tm)) (mx.map (·.ev α.tm))):ad P w0 dr (.slice k x lo hi mx) α S r S:=by
 refine ad.of rfl fun o hr=>?_
 obtain⟨t,u,l1,h1,m1,rfl,rfl,rfl,rfl,rfl,ht⟩:=E9 hr
 have h:=h t ht
 have e:∀ z:Option Operand,(z.map qo).map (·.ev α.tm)=z.map α.ev:=fun z=>by
  cases z with
  |none=>rfl
  |some z=>simp [aR]
 rw [e,e,e,aR] at h
 exact h
theorem kP {f:Nat->AV}{lo:Option QO}{d i:Int}(h:jc f lo d=some i):jR (lo.map (·.ev f)) d=some i:=by
 cases lo with
 |none=>exact h
 |some x =>
  simp only [jc] at h
  simp only [Option.map_some,jR]
  split at h
  ·rename_i e;rw [e];exact h
  ·cases h
theorem Gn {k:SK}{x:QO}{f:Nat->AV}{df:List Nat}{lo hi mx:Option QO}{r:AV}(h:LX k (x.ev f) f lo hi mx=some r):ad P w0 dr (.slice k x lo hi mx) ⟨f,df⟩ S r S:=by
 refine ad.abK fun t ht=>?_
 simp only
 unfold LX at h
 split at h
 ·simp only [Option.map_none]
  split at h
  ·rename_i s hs
   split at h
   ·rename_i l hh h1 h2
    split at h
    ·rename_i hd
     have hd:=of_decide_eq_true hd
     obtain rfl:=Option.some.inj h
     rcases ht with ⟨_,ht⟩|⟨e,m,hk,_⟩
     ·rw [hs]
      simp only [jv,ht,kP h1,kP h2]
      exact⟨hd.1,hd.2.1,hd.2.2,rfl,rfl⟩
     ·cases hk
    ·cases h
   ·cases h
  ·rename_i m ex rows hs
   split at h
   ·rename_i l hh h1 h2
    split at h
    ·rename_i hd
     simp only [Bool.and_eq_true] at hd
     have d_:=of_decide_eq_true hd.1
     have eK:=e8 hd.2
     obtain rfl:=Option.some.inj h
     rcases ht with ⟨hk,_⟩|⟨e,m',hk,ht,hz⟩
     ·cases hk
     ·injection hk with hk
      subst hk
      rw [hs]
      simp only [jv,ht,kP h1,kP h2,hz]
      exact⟨fun row hr=>by rw [eK row hr],rfl,d_.1,d_.2.1,d_.2.2,rfl,rfl⟩
    ·cases h
   ·cases h
  ·rename_i m kk sz off len cx hs
   split at h
   ·rename_i hh h2
    split at h
    ·split at h
     ·rename_i hd
      simp only [Bool.and_eq_true] at hd
      have d_:=of_decide_eq_true hd.1
      have eK:=Nat.eq_of_beq_eq_true hd.2
      obtain rfl:=Option.some.inj h
      rcases ht with ⟨hk,_⟩|⟨e,m',hk,ht,hz⟩
      ·cases hk
      ·injection hk with hk
       subst hk
       rw [hs]
       simp only [jv,ht,kP h2,hz,Option.map_none]
       exact⟨by rw [eK],d_.1,d_.2,rfl,rfl⟩
     ·cases h
    ·rename_i y
     split at h
     ·rename_i ik l hl
      split at h
      ·rename_i hd
       simp only [Bool.and_eq_true] at hd
       have d_:=of_decide_eq_true hd.1
       have eK:=Nat.eq_of_beq_eq_true hd.2
       rcases ht with ⟨hk,_⟩|⟨e,m',hk,ht,hz⟩
       ·cases hk
       ·injection hk with hk
        subst hk
        rw [hs]
        simp only [jv,ht,kP h2,hz,Option.map_some,hl]
        split at h
        ·rename_i he
         obtain rfl:=Option.some.inj h
         have he:=of_decide_eq_true he
         exact⟨by rw [eK],d_.1,d_.2.1,d_.2.2,fun _=>⟨rfl,rfl⟩,fun au=>by omega⟩
        ·rename_i he
         obtain rfl:=Option.some.inj h
         have he:=of_decide_eq_false he
         exact⟨by rw [eK],d_.1,d_.2.1,d_.2.2,fun hq=>absurd hq he,fun _=>⟨rfl,rfl⟩⟩
      ·cases h
     ·cases h
   ·cases h
  ·cases h
 ·rename_i z
  simp only [Option.map_some]
  split at h
  ·rename_i ik c y hz
   split at h
   ·rename_i ik' hh hy
    split at h
    ·rename_i m ex rows hs
     split at h
     ·rename_i l h1
      split at h
      ·rename_i hd
       simp only [Bool.and_eq_true] at hd
       have d_:=of_decide_eq_true hd.1
       have eK:=e8 hd.2
       obtain rfl:=Option.some.inj h
       rcases ht with ⟨hk,_⟩|⟨e,m',hk,ht,o6⟩
       ·cases hk
       ·injection hk with hk
        subst hk
        rw [hs,hz]
        simp only [jv,ht,kP h1,o6,Option.map_some,hy]
        exact⟨fun row hr=>by rw [eK row hr],rfl,d_.1,d_.2.1,d_.2.2.1,d_.2.2.2,rfl,rfl⟩
      ·cases h
     ·cases h
    ·rename_i m kk sz off len cx hs
     split at h
     ·rename_i l h1
      split at h
      ·rename_i hd
       simp only [Bool.and_eq_true] at hd
       have d_:=of_decide_eq_true hd.1
       have eK:=Nat.eq_of_beq_eq_true hd.2
       obtain rfl:=Option.some.inj h
       rcases ht with ⟨hk,_⟩|⟨e,m',hk,ht,o6⟩
       ·cases hk
       ·injection hk with hk
        subst hk
        rw [hs,hz]
        simp only [jv,ht,kP h1,o6,Option.map_some,hy]
        exact⟨by rw [eK],d_.1,d_.2.1,d_.2.2.1,d_.2.2.2,rfl,rfl⟩
      ·cases h
     ·cases h
    ·cases h
   ·cases h
  ·cases h
theorem ad.abL {op:BinOp}{bk:BK}{x y:QO}{a b r:Value}(hx:x.ev α.tm=.v a) (hy:y.ev α.tm=.v b) (h:∀ (t:TypeId) (u v:Operand) (w:World),(eqGuard op t u v a b).run P w=.ok () w/\(binOp op t a b).run P w=.ok r w):ad P w0 dr (.bin op bk x y) α S (.v r) S:=by
 have key:∀ {n:Nat}{o:Oper}(β:AA) (T:ae),res P.toTables o.op=some (.bin op bk x y)->x.ev β.tm=.v a->y.ev β.tm=.v b->ew P w0 n o β T (.v r) T:=by
  intro n o β T hr hx hy
  obtain⟨t,u,v,s,ho,rfl,rfl,_⟩:=pG hr
  rw [aR] at hx hy
  refine bf.ops (bf.quiet fun A g c w hS hA=>⟨r,?_,.v⟩) fun c e=>by rw [ho] at e;cases e
  have e1:=hA.ev u
  have e2:=hA.ev v
  rw [hx] at e1
  rw [hy] at e2
  simp only [execOp,ho,ca e1,ca e2,Sem.run_bind,(h t u v w).1,Result.andThen_ok,(h t u v w).2,Sem.run_pure]
 cases dr with
 |false=>exact fun n o hr=>key α S hr hx hy
 |true =>
  intro n o hr
  obtain⟨t,u,v,s,ho,hu,hv,_⟩:=pG hr
  have hk:∀ z ∈ o.op.operands,(α.only (dp o)).ev z=α.ev z:=fun z hz=>jw fun t e=>iN (by rw [<-e];exact hz)
  have h1:(α.only (dp o)).ev u=α.ev u:=hk u (by rw [ho];simp [Op.operands])
  have h2:(α.only (dp o)).ev v=α.ev v:=hk v (by rw [ho];simp [Op.operands])
  have h3:∀ T,ew P w0 n o (α.only (dp o)) T (.v r) T:=fun T=>key _ T hr (by rw [hu,aR,h1,<-aR,<-hu];exact hx) (by rw [hv,aR,h2,<-aR,<-hv];exact hy)
  exact⟨h3 S,fun _=>⟨rfl,h3⟩,fun _=>rfl⟩
theorem JR {op:BinOp}{k k':IntKind}{a b c:Int}(h:Gk op k a k' b=some c) (t:TypeId) (u v:Operand) (w:World):(eqGuard op t u v (.int k a) (.int k' b)).run P w=.ok () w/\(binOp op t (.int k a) (.int k' b)).run P w=.ok (.int k c) w:=by
 unfold Gk at h
 split at h
 ·split at h
  ·rename_i hb
   have hb:=of_decide_eq_false hb
   obtain rfl:=Option.some.inj h
   exact⟨rfl,by simp [binOp,Op.shift,hb]⟩
  ·cases h
 ·split at h
  ·rename_i hb
   have hb:=of_decide_eq_false hb
   obtain rfl:=Option.some.inj h
   exact⟨rfl,by simp [binOp,Op.shift,hb]⟩
  ·cases h
 ·split at h
  ·rename_i hk
   have hk:=of_decide_eq_true hk
   subst hk
   obtain rfl:=Option.some.inj h
   exact⟨rfl,by simp [binOp,Op.intBits]⟩
  ·cases h
 ·split at h
  ·rename_i hk
   have hk:=of_decide_eq_true hk
   subst hk
   obtain rfl:=Option.some.inj h
   exact⟨rfl,by simp [binOp,Op.intBits]⟩
  ·cases h
 ·split at h
  ·rename_i hk
   have hk:=of_decide_eq_true hk
   subst hk
   obtain rfl:=Option.some.inj h
   exact⟨rfl,by simp [binOp,Op.intBits]⟩
  ·cases h
 ·split at h
  ·rename_i hk
   have hk:=of_decide_eq_true hk
   subst hk
   obtain rfl:=Option.some.inj h
   exact⟨rfl,by simp [binOp,Op.intBits]⟩
  ·cases h
 ·split at h
  ·rename_i hk hb
   have hk:=of_decide_eq_true hk
   have hb:=of_decide_eq_false hb
   subst hk
   obtain rfl:=Option.some.inj h
   exact⟨rfl,by simp [binOp,Op.intDiv,hb]⟩
  ·cases h
 ·split at h
  ·rename_i hk hb
   have hk:=of_decide_eq_true hk
   have hb:=of_decide_eq_false hb
   subst hk
   obtain rfl:=Option.some.inj h
   exact⟨rfl,by simp [binOp,Op.intDiv,hb]⟩
  ·cases h
 ·cases h
theorem Gp {op:BinOp}{bk:BK}{x y:QO}{f:Nat->AV}{df:List Nat}{r:AV}(h:LW dr op bk y (x.ev f) (y.ev f)=some r):ad P w0 dr (.bin op bk x y) ⟨f,df⟩ S r S:=by
 unfold LW at h
 split at h
 ·rename_i e he
  obtain rfl:=Option.some.inj h
  exact ad.bit he
 ·split at h
  ·rename_i k i k' j h1 h2
   split at h
   ·rename_i c hc hk
    have hk:=of_decide_eq_true hk
    subst hk
    obtain rfl:=Option.some.inj h
    exact ad.ari h1 h2 hc
   ·cases h
   ·split at h
    ·rename_i c hc
     obtain rfl:=Option.some.inj h
     exact ad.abL h1 h2 (JR hc)
    ·cases h
  ·rename_i s t h1 h2
   split at h
   ·rename_i hl
    obtain rfl:=Option.some.inj h
    exact ad.cat h1 h2 (Nat.le_of_ble_eq_true (by assumption))
   ·cases h
  ·split at h
   ·split at h
    ·rename_i b hb
     split at h
     ·rename_i d hd
      obtain rfl:=Option.some.inj h
      exact ad.nil hb hd
     ·cases h
    ·cases h
   ·cases h
theorem ad.abM {len n:Nat}{x i:QO}{row:List AV}{ik:IntKind}{j:Int}(h1:x.ev α.tm=.ip row) (h2:i.ev α.tm=.v (.int ik j)) (h3:0<=j) (h4:j < len):ad P w0 dr (.ow len n x i) α S (.ip (row.drop (j.toNat*n))) S:=by
 refine ad.of rfl fun o hr=>?_
 cases o<;>simp only [res,b9,dY] at hr<;>(repeat' split at hr)<;>(try cases hr)
 rw [aR] at h1 h2
 simp only [bo,h1,h2,‹P.underlying _=_›,‹cQ P _=_›]
 exact⟨h3,h4,rfl,rfl⟩
theorem ad.X_ {len n:Nat}{x i:QO}{k sz p q:Nat}{ik:IntKind}{j:Int}(h1:x.ev α.tm=.pt k sz p q) (h2:i.ev α.tm=.v (.int ik j)) (h3:0<=j) (h4:j < len):ad P w0 dr (.ow len n x i) α S (.pt k sz p (q+j.toNat*n)) S:=by
 refine ad.of rfl fun o hr=>?_
 cases o<;>simp only [res,b9,dY] at hr<;>(repeat' split at hr)<;>(try cases hr)
 rw [aR] at h1 h2
 simp only [bo,h1,h2,‹P.underlying _=_›,‹cQ P _=_›]
 exact⟨h3,h4,rfl,rfl⟩
theorem AI {q:dm}{f:Nat->AV}{df:List Nat}{r:AV}(h:qx dr q f=some r):ad P w0 dr q ⟨f,df⟩ S r S:=by
 have quiet:∀ {q:dm},(match zN q with|true=>(match gU q f ae.none_ with|some (r,_)=>some r|none=>none)|false=>none)=some r->ad P w0 dr q ⟨f,df⟩ S r S:=fun {q} h=>by
  split at h
  ·rename_i hp
   split at h
   ·rename_i r' S1 hq
    obtain rfl:=Option.some.inj h
    exact ad.quiet (CZ hp hq S)
   ·cases h
  ·cases h
 cases q with
 |bin op bk x y=>exact Gp h
 |neg x =>
  simp only [qx] at h
  split at h
  ·rename_i hx;obtain rfl:=Option.some.inj h;exact ad.neg hx
  ·cases h
 |conv k x =>
  simp only [qx] at h
  split at h
  ·rename_i hx;obtain rfl:=Option.some.inj h;exact ad.conv hx
  ·cases h
 |pd x =>
  simp only [qx] at h
  split at h
  ·rename_i hx;obtain rfl:=Option.some.inj h;exact ad.pd hx
  ·cases h
 |copy sz x y =>
  simp only [qx] at h
  split at h
  ·rename_i hx hy;obtain rfl:=Option.some.inj h;exact ad.abH hx hy
  ·cases h
 |qV m x i =>
  simp only [qx] at h
  split at h
  ·rename_i ik j hi
   split at h
   ·rename_i ex rows hx
    split at h
    ·rename_i ha
     split at h
     ·rename_i row hr
      obtain rfl:=Option.some.inj h
      exact ad.ind hx hi hr (e8 ha)
     ·cases h
    ·cases h
   ·rename_i k m' off len cx hx
    split at h
    ·rename_i hb
     simp only [Bool.and_eq_true] at hb
     have h1:=Nat.eq_of_beq_eq_true hb.1
     have h2:=of_decide_eq_true hb.2
     subst h1
     obtain rfl:=Option.some.inj h
     exact ad.abN hx hi h2.1 h2.2
    ·cases h
   ·cases h
  ·cases h
 |ow len n x i =>
  simp only [qx] at h
  split at h
  ·rename_i ik j hi
   split at h
   ·rename_i hd
    have hd:=of_decide_eq_true hd
    split at h
    ·rename_i row hx;obtain rfl:=Option.some.inj h;exact ad.abM hx hi hd.1 hd.2
    ·rename_i k sz p q hx;obtain rfl:=Option.some.inj h;exact ad.X_ hx hi hd.1 hd.2
    ·cases h
   ·cases h
  ·cases h
 |sS x i =>
  simp only [qx] at h
  split at h
  ·rename_i hx hi
   split at h
   ·rename_i b hb;obtain rfl:=Option.some.inj h;exact ad.Cg hx hi hb
   ·cases h
  ·cases h
 |l8 len m k x i =>
  simp only [qx] at h
  split at h
  ·rename_i hx hi
   split at h
   ·rename_i hd
    have hd:=of_decide_eq_true hd
    exact ad.l8 hx hi h hd.1 hd.2
   ·cases h
  ·cases h
 |slice k x lo hi mx=>exact Gn h
 |len str x =>
  simp only [qx] at h
  split at h
  ·rename_i m hm;obtain rfl:=Option.some.inj h;exact ad.len hm
  ·split at h
   ·obtain rfl:=Option.some.inj h;exact ad.TL (by assumption)
   ·cases h
 |min x y =>
  simp only [qx] at h
  split at h
  ·rename_i k a k' b hx hy
   split at h
   ·rename_i hd
    have hd:=of_decide_eq_true hd
    subst hd
    obtain rfl:=Option.some.inj h
    exact ad.min hx hy
   ·cases h
  ·cases h
 |max x y =>
  simp only [qx] at h
  split at h
  ·rename_i k a k' b hx hy
   split at h
   ·rename_i hd
    have hd:=of_decide_eq_true hd
    subst hd
    obtain rfl:=Option.some.inj h
    exact ad.max hx hy
   ·cases h
  ·cases h
 |_=>exact quiet h
end
end Go.Proofs.YtbofilglphfceaaGreat
