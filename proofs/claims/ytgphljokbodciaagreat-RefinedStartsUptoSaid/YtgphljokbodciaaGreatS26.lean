import Derived.Test.YtgphljokbodciaaGreatS25
namespace Go.Proofs.YtgphljokbodciaaGreat
set_option linter.unusedVariables false
set_option linter.unusedSimpArgs false
open Go.RowKit
section
set_option maxRecDepth 100000
attribute [local irreducible] ah aV ad ab
def QZ:CF Tryz.f266:=⟨_,by conv=>lhs;cbv⟩
theorem aaz:aD Tryz.prog 266 QZ.1 Tryz.f266.ntmps:=aO Tryz.func266 QZ.2 Tryz.call266
def oB:List Nat:=[17,0,1,6,14,16,18,15,7,2,8,9,30]
def Q0:CF Tryz.f269:=⟨_,by conv=>lhs;cbv⟩
theorem aaA:aD Tryz.prog 269 Q0.1 Tryz.f269.ntmps:=aO Tryz.func269 Q0.2 Tryz.call269
def oC:List Nat:=[17,0,1,6,14,16,18,15,7,2,8,9,30]
def Q1:CF Tryz.f272:=⟨_,by conv=>lhs;cbv⟩
theorem aaB:aD Tryz.prog 272 Q1.1 Tryz.f272.ntmps:=aO Tryz.func272 Q1.2 Tryz.call272
def oD:List Nat:=[17,0,1,6,14,16,18,15,7,2,8,9,30]
section
variable {w0:World}{ρ:Hd}
theorem aaC (p:Im->Im->Bool) (a b:List Im) (gid:FuncId) (fs cs:List AV) (ha:a.length<=1099511627776) (gj:b.length<=1099511627776) (hF:Pure (.fn (.func gid) fs cs)) (h:∀ x ∈ a,∀ y ∈ b,yN Tryz.prog w0 (.fn (.func gid) fs cs) [it ρ x,it ρ y] (p x y)):ah Tryz.prog w0 266 [fN ρ a,fN ρ b,.fn (.func gid) fs cs] (.v (.bool (de p a b))):=by
 obtain⟨R,hR⟩:∃ R,R=de p a b:=⟨_,rfl⟩
 rw [<-hR]
 refine aaz.aH (by simp [Tryz.ntmps266]) (.v) ?_
 refine gq oB ?_
 repeat' (first
  |(refine bq (fun hb=>?_) (fun hb=>?_)<;>(try simp only [aq] at hb)<;>(first|refine gq oB ?_))
  |(refine az fun m hm=>?_;(try rw [af] at hm);refine gq oB ?_)
  |(refine fq ?_))
 ·refine aI ?_
  rw [hR,ny (by omega)]
 have bH:a.length=b.length:=by omega
 refine ab.aP (σ:=Int) 0 0 [] (fun i=>[(1,fN ρ b),(2,.fn (.func gid) fs cs),(15,fN ρ a),(16,.v (.int .i64 m)),(17,.v (.int .i64 i))]) [] (fun _=>[])
  (fun i=>∃ k:Nat,i=k/\k<=a.length/\R=de p (a.drop k) (b.drop k)) (fun i=>a.length - i.toNat) 0 ⟨0,rfl,by simp,by simpa using hR⟩ rfl ⟨⟨.aC rfl (Pure.bM (ct _)),.aC rfl (Pure.bM hF),.aC rfl (Pure.bM (ct _)),.aC rfl .v,.aC rfl .v,trivial⟩,rfl,trivial,rfl,rfl,rfl⟩ ?_
 rintro i ⟨k,hi,hk,hp⟩
 clear hR
 refine gq oB ?_
 by_cases au:k < a.length
 ·obtain⟨x,hx,aQ⟩:=aA au
  obtain⟨y,hy,cT⟩:=aA (show k < b.length by omega)
  rw [aQ,cT,de] at hp
  have hf:=h x (aZ hx) y (aZ hy)
  repeat' (first
   |(refine ab.op rfl (ad.ind rfl rfl (ay (l:=a) hi hx) (aw fun _=>rfl)) ?_;refine gq oB ?_)
   |(refine ab.op rfl (ad.ind rfl rfl (ay (l:=b) hi hy) (aw fun _=>rfl)) ?_;refine gq oB ?_)
   |(refine ab.bif rfl (ad.FB rfl rfl hf) (fun _=>?_) (fun _=>?_)<;>refine gq oB ?_)
   |(refine bq (fun hb=>?_) (fun hb=>?_)<;>(try simp only [aq] at hb)<;>(first|refine gq oB ?_))
   |(refine aS fun _ _=>?_;refine gq oB ?_)
   |(refine ab.ao ?_;refine gq oB ?_)
   |(refine ab.bK ?_;refine gq oB ?_)
   |(refine fq ?_))
  all_goals first
   |(refine aI ?_;rw [hp];simp_all;done)
   |(refine ab.aK (σ:=Int) _ [] ?_ ?_ ⟨⟨.aC rfl (Pure.bM (ct _)),.aC rfl (Pure.bM hF),.aC rfl (Pure.bM (ct _)),.aC rfl .v,.aC rfl .v,trivial⟩,rfl,trivial,rfl,rfl,rfl⟩
     ·exact⟨k+1,by omega,by omega,by rw [hp];simp_all⟩
     ·omega)
 ·skip
  repeat' (first
   |(refine bq (fun hb=>?_) (fun hb=>?_)<;>(try simp only [aq] at hb)<;>(first|refine gq oB ?_))
   |(refine ab.ao ?_;refine gq oB ?_)
   |(refine fq ?_))
  all_goals first
   |(exfalso;omega)
   |(rw [hp,List.drop_eq_nil_of_le (by omega),List.drop_eq_nil_of_le (by omega)];exact aI rfl)
theorem aaD (p:Bd->Bd->Bool) (a b:List Bd) (gid:FuncId) (fs cs:List AV) (ha:a.length<=1099511627776) (gj:b.length<=1099511627776) (hF:Pure (.fn (.func gid) fs cs)) (h:∀ x ∈ a,∀ y ∈ b,yN Tryz.prog w0 (.fn (.func gid) fs cs) [bd ρ x,bd ρ y] (p x y)):ah Tryz.prog w0 269 [eL ρ a,eL ρ b,.fn (.func gid) fs cs] (.v (.bool (de p a b))):=by
 obtain⟨R,hR⟩:∃ R,R=de p a b:=⟨_,rfl⟩
 rw [<-hR]
 refine aaA.aH (by simp [Tryz.ntmps269]) (.v) ?_
 refine gq oC ?_
 repeat' (first
  |(refine bq (fun hb=>?_) (fun hb=>?_)<;>(try simp only [aq] at hb)<;>(first|refine gq oC ?_))
  |(refine az fun m hm=>?_;(try rw [af] at hm);refine gq oC ?_)
  |(refine fq ?_))
 ·refine aI ?_
  rw [hR,ny (by omega)]
 have bH:a.length=b.length:=by omega
 refine ab.aP (σ:=Int) 0 0 [] (fun i=>[(1,eL ρ b),(2,.fn (.func gid) fs cs),(15,eL ρ a),(16,.v (.int .i64 m)),(17,.v (.int .i64 i))]) [] (fun _=>[])
  (fun i=>∃ k:Nat,i=k/\k<=a.length/\R=de p (a.drop k) (b.drop k)) (fun i=>a.length - i.toNat) 0 ⟨0,rfl,by simp,by simpa using hR⟩ rfl ⟨⟨.aC rfl (Pure.bM (b8 _)),.aC rfl (Pure.bM hF),.aC rfl (Pure.bM (b8 _)),.aC rfl .v,.aC rfl .v,trivial⟩,rfl,trivial,rfl,rfl,rfl⟩ ?_
 rintro i ⟨k,hi,hk,hp⟩
 clear hR
 refine gq oC ?_
 by_cases au:k < a.length
 ·obtain⟨x,hx,aQ⟩:=aA au
  obtain⟨y,hy,cT⟩:=aA (show k < b.length by omega)
  rw [aQ,cT,de] at hp
  have hf:=h x (aZ hx) y (aZ hy)
  repeat' (first
   |(refine ab.op rfl (ad.ind rfl rfl (ay (l:=a) hi hx) (aw fun _=>rfl)) ?_;refine gq oC ?_)
   |(refine ab.op rfl (ad.ind rfl rfl (ay (l:=b) hi hy) (aw fun _=>rfl)) ?_;refine gq oC ?_)
   |(refine ab.bif rfl (ad.FB rfl rfl hf) (fun _=>?_) (fun _=>?_)<;>refine gq oC ?_)
   |(refine bq (fun hb=>?_) (fun hb=>?_)<;>(try simp only [aq] at hb)<;>(first|refine gq oC ?_))
   |(refine aS fun _ _=>?_;refine gq oC ?_)
   |(refine ab.ao ?_;refine gq oC ?_)
   |(refine ab.bK ?_;refine gq oC ?_)
   |(refine fq ?_))
  all_goals first
   |(refine aI ?_;rw [hp];simp_all;done)
   |(refine ab.aK (σ:=Int) _ [] ?_ ?_ ⟨⟨.aC rfl (Pure.bM (b8 _)),.aC rfl (Pure.bM hF),.aC rfl (Pure.bM (b8 _)),.aC rfl .v,.aC rfl .v,trivial⟩,rfl,trivial,rfl,rfl,rfl⟩
     ·exact⟨k+1,by omega,by omega,by rw [hp];simp_all⟩
     ·omega)
 ·skip
  repeat' (first
   |(refine bq (fun hb=>?_) (fun hb=>?_)<;>(try simp only [aq] at hb)<;>(first|refine gq oC ?_))
   |(refine ab.ao ?_;refine gq oC ?_)
   |(refine fq ?_))
  all_goals first
   |(exfalso;omega)
   |(rw [hp,List.drop_eq_nil_of_le (by omega),List.drop_eq_nil_of_le (by omega)];exact aI rfl)
theorem aaE (p:Fi->Fi->Bool) (a b:List Fi) (gid:FuncId) (fs cs:List AV) (ha:a.length<=1099511627776) (gj:b.length<=1099511627776) (hF:Pure (.fn (.func gid) fs cs)) (h:∀ x ∈ a,∀ y ∈ b,yN Tryz.prog w0 (.fn (.func gid) fs cs) [fi ρ x,fi ρ y] (p x y)):ah Tryz.prog w0 272 [gW ρ a,gW ρ b,.fn (.func gid) fs cs] (.v (.bool (de p a b))):=by
 obtain⟨R,hR⟩:∃ R,R=de p a b:=⟨_,rfl⟩
 rw [<-hR]
 refine aaB.aH (by simp [Tryz.ntmps272]) (.v) ?_
 refine gq oD ?_
 repeat' (first
  |(refine bq (fun hb=>?_) (fun hb=>?_)<;>(try simp only [aq] at hb)<;>(first|refine gq oD ?_))
  |(refine az fun m hm=>?_;(try rw [af] at hm);refine gq oD ?_)
  |(refine fq ?_))
 ·refine aI ?_
  rw [hR,ny (by omega)]
 have bH:a.length=b.length:=by omega
 refine ab.aP (σ:=Int) 0 0 [] (fun i=>[(1,gW ρ b),(2,.fn (.func gid) fs cs),(15,gW ρ a),(16,.v (.int .i64 m)),(17,.v (.int .i64 i))]) [] (fun _=>[])
  (fun i=>∃ k:Nat,i=k/\k<=a.length/\R=de p (a.drop k) (b.drop k)) (fun i=>a.length - i.toNat) 0 ⟨0,rfl,by simp,by simpa using hR⟩ rfl ⟨⟨.aC rfl (Pure.bM (cN _)),.aC rfl (Pure.bM hF),.aC rfl (Pure.bM (cN _)),.aC rfl .v,.aC rfl .v,trivial⟩,rfl,trivial,rfl,rfl,rfl⟩ ?_
 rintro i ⟨k,hi,hk,hp⟩
 clear hR
 refine gq oD ?_
 by_cases au:k < a.length
 ·obtain⟨x,hx,aQ⟩:=aA au
  obtain⟨y,hy,cT⟩:=aA (show k < b.length by omega)
  rw [aQ,cT,de] at hp
  have hf:=h x (aZ hx) y (aZ hy)
  repeat' (first
   |(refine ab.op rfl (ad.ind rfl rfl (ay (l:=a) hi hx) (aw fun _=>rfl)) ?_;refine gq oD ?_)
   |(refine ab.op rfl (ad.ind rfl rfl (ay (l:=b) hi hy) (aw fun _=>rfl)) ?_;refine gq oD ?_)
   |(refine ab.bif rfl (ad.FB rfl rfl hf) (fun _=>?_) (fun _=>?_)<;>refine gq oD ?_)
   |(refine bq (fun hb=>?_) (fun hb=>?_)<;>(try simp only [aq] at hb)<;>(first|refine gq oD ?_))
   |(refine aS fun _ _=>?_;refine gq oD ?_)
   |(refine ab.ao ?_;refine gq oD ?_)
   |(refine ab.bK ?_;refine gq oD ?_)
   |(refine fq ?_))
  all_goals first
   |(refine aI ?_;rw [hp];simp_all;done)
   |(refine ab.aK (σ:=Int) _ [] ?_ ?_ ⟨⟨.aC rfl (Pure.bM (cN _)),.aC rfl (Pure.bM hF),.aC rfl (Pure.bM (cN _)),.aC rfl .v,.aC rfl .v,trivial⟩,rfl,trivial,rfl,rfl,rfl⟩
     ·exact⟨k+1,by omega,by omega,by rw [hp];simp_all⟩
     ·omega)
 ·skip
  repeat' (first
   |(refine bq (fun hb=>?_) (fun hb=>?_)<;>(try simp only [aq] at hb)<;>(first|refine gq oD ?_))
   |(refine ab.ao ?_;refine gq oD ?_)
   |(refine fq ?_))
  all_goals first
   |(exfalso;omega)
   |(rw [hp,List.drop_eq_nil_of_le (by omega),List.drop_eq_nil_of_le (by omega)];exact aI rfl)
end
end
def jT (m:Nat):List (List AV)->Bool
 |[]=>true
 |r::l=>match Nat.beq r.length m with|true=>jT m l|false=>false
theorem fk {m:Nat}:∀ {l:List (List AV)},jT m l=true->∀ r ∈ l,r.length=m
 |[],_,r,h=>by cases h
 |b::l,hp,r,h=>by
  simp only [jT] at hp
  split at hp
  ·rename_i hb
   rcases List.mem_cons.1 h with rfl|h
   ·exact Nat.eq_of_beq_eq_true hb
   ·exact fk hp r h
  ·cases hp
def Hr (op:BinOp) (k:IntKind) (a:Int) (k':IntKind) (b:Int):Option Int:=match op with
 |.shl=>match decide (b < 0) with
  |false=>some (k.wrap (a*2 ^ (min b.toNat k.bits)))
  |true=>none
 |.shr=>match decide (b < 0) with
  |false=>some (a.fdiv (2 ^ (min b.toNat k.bits)))
  |true=>none
 |.and=>match decide (k=k') with|true=>some (k.wrap (BitVec.ofInt k.bits a &&& BitVec.ofInt k.bits b).toNat)|false=>none
 |.or=>match decide (k=k') with|true=>some (k.wrap (BitVec.ofInt k.bits a ||| BitVec.ofInt k.bits b).toNat)|false=>none
 |.xor=>match decide (k=k') with|true=>some (k.wrap (BitVec.ofInt k.bits a ^^^ BitVec.ofInt k.bits b).toNat)|false=>none
 |.andNot=>match decide (k=k') with|true=>some (k.wrap (BitVec.ofInt k.bits a &&& ~~~BitVec.ofInt k.bits b).toNat)|false=>none
 |.quo=>match decide (k=k'),decide (b=0) with|true,false=>some (k.wrap (a.tdiv b))|_,_=>none
 |.rem=>match decide (k=k'),decide (b=0) with|true,false=>some (a.tmod b)|_,_=>none
 |_=>none
def No (dr:Bool) (op:BinOp) (bk:BK) (y:QO) (a b:AV):Option AV :=
 match Hs op bk a b with
 |some e=>some (.v (.bool e))
 |none=>match a,b with
  |.v (.int k i),.v (.int k' j)=>match arith op i j,decide (k=k') with
   |some c,true=>some (.v (.int k (k.wrap c)))
   |some _,false=>none
   |none,_=>match Hr op k i k' j with
    |some c=>some (.v (.int k c))
    |none=>none
  |.v (.string s),.v (.string t)=>match op,Nat.ble (s.size+t.size) 9223372036854775807 with
   |.add,true=>some (.v (.string (s++t)))
   |_,_=>none
  |a,_=>match bk,y with
   |.s,.c (.sl true [])=>match Dr a with
    |some b=>match Nk op b with
     |some d=>some (.v (.bool d))
     |none=>none
    |none=>none
   |_,_=>none
def Np (k:SK) (a:AV) (f:Nat->AV) (lo hi mx:Option QO):Option AV :=
 match mx with
 |none=>match k,a with
  |.str,.v (.string s)=>match jz f lo 0,jz f hi s.size with
   |some l,some h=>match decide (0<=l/\l<=h/\h<=s.size) with
    |true=>some (.v (.string (s.extract l.toNat h.toNat)))
    |false=>none
   |_,_=>none
  |.sl m,.sl ex rows=>match jz f lo 0,jz f hi rows.length with
   |some l,some h=>match decide (0<=l/\l<=h/\h<=rows.length) && jT m rows with
    |true=>some (.sl false ((rows.take h.toNat).drop l.toNat))
    |false=>none
   |_,_=>none
  |.sl m,.ob k sz off len cx=>match jz f hi len with
   |some h=>match lo with
    |none=>match decide (0<=h/\h<=len) && Nat.beq m sz with
     |true=>some (.ob k sz off h.toNat cx)
     |false=>none
    |some x=>match x.ev f with
     |.v (.int _ l)=>match decide (0<=l/\l<=h/\h<=len) && Nat.beq m sz with
      |true=>match decide (l=h) with
       |true=>some (.sl false [])
       |false=>some (.ob k sz (off+l.toNat) (h.toNat - l.toNat) (cx.map (· - l.toNat)))
      |false=>none
     |_=>none
   |none=>none
  |_,_=>none
 |some z=>match z.ev f,hi with
  |.v (.int _ c),some y=>match y.ev f with
   |.v (.int _ h)=>match k,a with
    |.sl m,.sl ex rows=>match jz f lo 0 with
     |some l=>match decide (0<=l/\l<=h/\h=c/\h<=rows.length) && jT m rows with
      |true=>some (.sl true ((rows.take h.toNat).drop l.toNat))
      |false=>none
     |none=>none
    |.sl m,.ob k sz off len cx=>match jz f lo 0 with
     |some l=>match decide (l=0/\h=c/\h<=len/\0<=h) && Nat.beq m sz with
      |true=>some (.ob k sz off h.toNat (some h.toNat))
      |false=>none
     |none=>none
    |_,_=>none
   |_=>none
  |_,_=>none
def ru (dr:Bool) (q:dz) (f:Nat->AV):Option AV :=
 match q with
 |.bin op bk x y=>No dr op bk y (x.ev f) (y.ev f)
 |.neg x=>match x.ev f with
  |.v (.int k a)=>some (.v (.int k (k.wrap (0 - a))))
  |_=>none
 |.conv k x=>match x.ev f with
  |.v (.int _ a)=>some (.v (.int k (k.wrap a)))
  |_=>none
 |.qf x=>match x.ev f with
  |.v (.string a)=>some (.v (.string a))
  |_=>none
 |.r_ m x i=>match i.ev f with
  |.v (.int _ j)=>match x.ev f with
   |.sl _ rows=>match jT m rows with
    |true=>match idx rows j with
     |some row=>some (.ip row)
     |none=>none
    |false=>none
   |.ob k m' off len _=>match Nat.beq m' m && decide (0<=j/\j < len) with
    |true=>some (.pt k m (off+j.toNat) 0)
    |false=>none
   |_=>none
  |_=>none
 |.o6 len n x i=>match i.ev f with
  |.v (.int _ j)=>match decide (0<=j/\j < len) with
   |true=>match x.ev f with
    |.ip row=>some (.ip (row.drop (j.toNat*n)))
    |.pt k sz i q=>some (.pt k sz i (q+j.toNat*n))
    |_=>none
   |false=>none
  |_=>none
 |.vv x i=>match x.ev f,i.ev f with
  |.v (.string s),.v (.int _ j)=>match idx s.data.toList j with
   |some b=>some (.v (.int .u8 b.toNat))
   |none=>none
  |_,_=>none
 |.mK len m k x i=>match x.ev f,i.ev f with
  |.agg l,.v (.int _ j)=>match decide (0<=j/\j < len) with
   |true=>rf k l (j.toNat*m)
   |false=>none
  |_,_=>none
 |.slice k x lo hi mx=>Np k (x.ev f) f lo hi mx
 |.copy _ x y=>match x.ev f,y.ev f with
  |.sl _ [],.sl _ []=>some (.v (.int .i64 0))
  |_,_=>none
 |.len str x=>match Nq str (x.ev f) with
  |some m=>some (.v (.int .i64 m))
  |none=>match str,x.ev f with
   |false,.gr _ _ len=>some (.v (.int .i64 len))
   |_,_=>none
 |.min x y=>match x.ev f,y.ev f with
  |.v (.int k a),.v (.int k' b)=>match decide (k'=k) with
   |true=>some (.v (.int k (min a b)))
   |false=>none
  |_,_=>none
 |.max x y=>match x.ev f,y.ev f with
  |.v (.int k a),.v (.int k' b)=>match decide (k'=k) with
   |true=>some (.v (.int k (max a b)))
   |false=>none
  |_,_=>none
 |q=>match Aq q with
  |true=>match ix q f ae.none_ with
   |some (r,_)=>some r
   |none=>none
  |false=>none
section
variable {P:Program}{w0:World}{o:Op}{α:AA}{S S':ae}{r:AV}{dr:Bool}
theorem FU {k:SK}{x:QO}{lo hi mx:Option QO}(h:res P.toTables o=some (.slice k x lo hi mx)):∃ t u l1 h1 m1,o=.slice t u l1 h1 m1/\x=qo u/\lo=l1.map qo/\hi=h1.map qo/\mx=m1.map qo /\
  ((k=.str/\P.underlying t=some .string)\/∃ e m,k=.sl m/\P.underlying t=some (.slice e)/\cS P e=some m):=by
 cases o with
 |slice t u l1 h1 m1 =>
  simp only [res,b_,ec] at h
  split at h
  ·rename_i hu
   simp only [Option.some.injEq,dz.slice.injEq] at h
   obtain⟨rfl,rfl,rfl,rfl,rfl⟩:=h
   exact⟨_,_,_,_,_,rfl,rfl,rfl,rfl,rfl,.inl ⟨rfl,hu⟩⟩
  ·rename_i e hu
   split at h
   ·rename_i m hs
    simp only [Option.some.injEq,dz.slice.injEq] at h
    obtain⟨rfl,rfl,rfl,rfl,rfl⟩:=h
    exact⟨_,_,_,_,_,rfl,rfl,rfl,rfl,rfl,.inr ⟨_,_,rfl,hu,hs⟩⟩
   ·cases h
  ·cases h
 |_ =>
  simp only [res] at h
  repeat' split at h
  all_goals cases h
theorem ad.afB {k:SK}{x:QO}{lo hi mx:Option QO}{r:AV}(h:∀ t,((k=.str/\P.underlying t=some .string)\/∃ e m,k=.sl m/\P.underlying t=some (.slice e)/\cS P e=some m) ->
  jO P t (qQ r S) S (x.ev α.tm) (lo.map (·.ev α.tm)) (hi.map (·.ev α.tm)) (mx.map (·.ev α.tm))):ad P w0 dr (.slice k x lo hi mx) α S r S:=by
 refine ad.of rfl fun o hr=>?_
 obtain⟨t,u,l1,h1,m1,rfl,rfl,rfl,rfl,rfl,ht⟩:=FU hr
 have h:=h t ht
 have e:∀ z:Option Operand,(z.map qo).map (·.ev α.tm)=z.map α.ev:=fun z=>by
  cases z with
  |none=>rfl
  |some z=>simp [aU]
 rw [e,e,e,aU] at h
 exact h
theorem lA {f:Nat->AV}{lo:Option QO}{d i:Int}(h:jz f lo d=some i):kh (lo.map (·.ev f)) d=some i:=by
 cases lo with
 |none=>exact h
 |some x =>
  simp only [jz] at h
  simp only [Option.map_some,kh]
  split at h
  ·rename_i e;rw [e];exact h
  ·cases h
theorem Ht {k:SK}{x:QO}{f:Nat->AV}{df:List DE}{lo hi mx:Option QO}{r:AV}(h:Np k (x.ev f) f lo hi mx=some r):ad P w0 dr (.slice k x lo hi mx) ⟨f,df⟩ S r S:=by
 refine ad.afB fun t ht=>?_
 simp only
 unfold Np at h
 split at h
 ·simp only [Option.map_none]
  split at h
  ·rename_i s hs
   split at h
   ·rename_i l hh h1 h2
    split at h
    ·rename_i hd
     have hd:=of_decide_eq_true hd
     obtain rfl:=Option.some.inj h
     rcases ht with ⟨_,ht⟩|⟨e,m,hk,_⟩
     ·rw [hs]
      simp only [jO,ht,lA h1,lA h2]
      exact⟨hd.1,hd.2.1,hd.2.2,rfl,rfl⟩
     ·cases hk
    ·cases h
   ·cases h
  ·rename_i m ex rows hs
   split at h
   ·rename_i l hh h1 h2
    split at h
    ·rename_i hd
     simp only [Bool.and_eq_true] at hd
     have dT:=of_decide_eq_true hd.1
     have ey:=fk hd.2
     obtain rfl:=Option.some.inj h
     rcases ht with ⟨hk,_⟩|⟨e,m',hk,ht,hz⟩
     ·cases hk
     ·injection hk with hk
      subst hk
      rw [hs]
      simp only [jO,ht,lA h1,lA h2,hz]
      exact⟨fun row hr=>by rw [ey row hr],rfl,dT.1,dT.2.1,dT.2.2,rfl,rfl⟩
    ·cases h
   ·cases h
  ·rename_i m kk sz off len cx hs
   split at h
   ·rename_i hh h2
    split at h
    ·split at h
     ·rename_i hd
      simp only [Bool.and_eq_true] at hd
      have dT:=of_decide_eq_true hd.1
      have ey:=Nat.eq_of_beq_eq_true hd.2
      obtain rfl:=Option.some.inj h
      rcases ht with ⟨hk,_⟩|⟨e,m',hk,ht,hz⟩
      ·cases hk
      ·injection hk with hk
       subst hk
       rw [hs]
       simp only [jO,ht,lA h2,hz,Option.map_none]
       exact⟨by rw [ey],dT.1,dT.2,rfl,rfl⟩
     ·cases h
    ·rename_i y
     split at h
     ·rename_i ik l hl
      split at h
      ·rename_i hd
       simp only [Bool.and_eq_true] at hd
       have dT:=of_decide_eq_true hd.1
       have ey:=Nat.eq_of_beq_eq_true hd.2
       rcases ht with ⟨hk,_⟩|⟨e,m',hk,ht,hz⟩
       ·cases hk
       ·injection hk with hk
        subst hk
        rw [hs]
        simp only [jO,ht,lA h2,hz,Option.map_some,hl]
        split at h
        ·rename_i he
         obtain rfl:=Option.some.inj h
         have he:=of_decide_eq_true he
         exact⟨by rw [ey],dT.1,dT.2.1,dT.2.2,fun _=>⟨rfl,rfl⟩,fun au=>by omega⟩
        ·rename_i he
         obtain rfl:=Option.some.inj h
         have he:=of_decide_eq_false he
         exact⟨by rw [ey],dT.1,dT.2.1,dT.2.2,fun hq=>absurd hq he,fun _=>⟨rfl,rfl⟩⟩
      ·cases h
     ·cases h
   ·cases h
  ·cases h
 ·rename_i z
  simp only [Option.map_some]
  split at h
  ·rename_i ik c y hz
   split at h
   ·rename_i ik' hh hy
    split at h
    ·rename_i m ex rows hs
     split at h
     ·rename_i l h1
      split at h
      ·rename_i hd
       simp only [Bool.and_eq_true] at hd
       have dT:=of_decide_eq_true hd.1
       have ey:=fk hd.2
       obtain rfl:=Option.some.inj h
       rcases ht with ⟨hk,_⟩|⟨e,m',hk,ht,pK⟩
       ·cases hk
       ·injection hk with hk
        subst hk
        rw [hs,hz]
        simp only [jO,ht,lA h1,pK,Option.map_some,hy]
        exact⟨fun row hr=>by rw [ey row hr],rfl,dT.1,dT.2.1,dT.2.2.1,dT.2.2.2,rfl,rfl⟩
      ·cases h
     ·cases h
    ·rename_i m kk sz off len cx hs
     split at h
     ·rename_i l h1
      split at h
      ·rename_i hd
       simp only [Bool.and_eq_true] at hd
       have dT:=of_decide_eq_true hd.1
       have ey:=Nat.eq_of_beq_eq_true hd.2
       obtain rfl:=Option.some.inj h
       rcases ht with ⟨hk,_⟩|⟨e,m',hk,ht,pK⟩
       ·cases hk
       ·injection hk with hk
        subst hk
        rw [hs,hz]
        simp only [jO,ht,lA h1,pK,Option.map_some,hy]
        exact⟨by rw [ey],dT.1,dT.2.1,dT.2.2.1,dT.2.2.2,rfl,rfl⟩
      ·cases h
     ·cases h
    ·cases h
   ·cases h
  ·cases h
theorem ad.afC {op:BinOp}{bk:BK}{x y:QO}{a b r:Value}(hx:x.ev α.tm=.v a) (hy:y.ev α.tm=.v b) (h:∀ (t:TypeId) (u v:Operand) (w:World),(eqGuard op t u v a b).run P w=.ok () w/\(binOp op t a b).run P w=.ok r w):ad P w0 dr (.bin op bk x y) α S (.v r) S:=by
 have key:∀ {n:Nat}{o:Oper}(β:AA) (T:ae),res P.toTables o.op=some (.bin op bk x y)->x.ev β.tm=.v a->y.ev β.tm=.v b->eB P w0 n o β T (.v r) T:=by
  intro n o β T hr hx hy
  obtain⟨t,u,v,s,ho,rfl,rfl,_⟩:=qn hr
  rw [aU] at hx hy
  refine bg.ops (bg.quiet fun A g c w hS hA=>⟨r,?_,.v⟩) fun c e=>by rw [ho] at e;cases e
  have e1:=hA.ev u
  have e2:=hA.ev v
  rw [hx] at e1
  rw [hy] at e2
  simp only [execOp,ho,cd e1,cd e2,Sem.run_bind,(h t u v w).1,Result.andThen_ok,(h t u v w).2,Sem.run_pure]
 cases dr with
 |false=>exact fun n o hr=>key α S hr hx hy
 |true =>
  intro n o hr
  obtain⟨t,u,v,s,ho,hu,hv,_⟩:=qn hr
  have hk:∀ z ∈ o.op.operands,(α.only (dg o)).ev z=α.ev z:=fun z hz=>jl fun t e=>iA (by rw [<-e];exact hz)
  have h1:(α.only (dg o)).ev u=α.ev u:=hk u (by rw [ho];simp [Op.operands])
  have h2:(α.only (dg o)).ev v=α.ev v:=hk v (by rw [ho];simp [Op.operands])
  have h3:∀ T,eB P w0 n o (α.only (dg o)) T (.v r) T:=fun T=>key _ T hr (by rw [hu,aU,h1,<-aU,<-hu];exact hx) (by rw [hv,aU,h2,<-aU,<-hv];exact hy)
  exact⟨h3 S,fun _=>⟨rfl,h3⟩,fun _=>rfl⟩
theorem K3 {op:BinOp}{k k':IntKind}{a b c:Int}(h:Hr op k a k' b=some c) (t:TypeId) (u v:Operand) (w:World):(eqGuard op t u v (.int k a) (.int k' b)).run P w=.ok () w/\(binOp op t (.int k a) (.int k' b)).run P w=.ok (.int k c) w:=by
 unfold Hr at h
 split at h
 ·split at h
  ·rename_i hb
   have hb:=of_decide_eq_false hb
   obtain rfl:=Option.some.inj h
   exact⟨rfl,by simp [binOp,Op.shift,hb]⟩
  ·cases h
 ·split at h
  ·rename_i hb
   have hb:=of_decide_eq_false hb
   obtain rfl:=Option.some.inj h
   exact⟨rfl,by simp [binOp,Op.shift,hb]⟩
  ·cases h
 ·split at h
  ·rename_i hk
   have hk:=of_decide_eq_true hk
   subst hk
   obtain rfl:=Option.some.inj h
   exact⟨rfl,by simp [binOp,Op.intBits]⟩
  ·cases h
 ·split at h
  ·rename_i hk
   have hk:=of_decide_eq_true hk
   subst hk
   obtain rfl:=Option.some.inj h
   exact⟨rfl,by simp [binOp,Op.intBits]⟩
  ·cases h
 ·split at h
  ·rename_i hk
   have hk:=of_decide_eq_true hk
   subst hk
   obtain rfl:=Option.some.inj h
   exact⟨rfl,by simp [binOp,Op.intBits]⟩
  ·cases h
 ·split at h
  ·rename_i hk
   have hk:=of_decide_eq_true hk
   subst hk
   obtain rfl:=Option.some.inj h
   exact⟨rfl,by simp [binOp,Op.intBits]⟩
  ·cases h
 ·split at h
  ·rename_i hk hb
   have hk:=of_decide_eq_true hk
   have hb:=of_decide_eq_false hb
   subst hk
   obtain rfl:=Option.some.inj h
   exact⟨rfl,by simp [binOp,Op.intDiv,hb]⟩
  ·cases h
 ·split at h
  ·rename_i hk hb
   have hk:=of_decide_eq_true hk
   have hb:=of_decide_eq_false hb
   subst hk
   obtain rfl:=Option.some.inj h
   exact⟨rfl,by simp [binOp,Op.intDiv,hb]⟩
  ·cases h
 ·cases h
theorem Hu {op:BinOp}{bk:BK}{x y:QO}{f:Nat->AV}{df:List DE}{r:AV}(h:No dr op bk y (x.ev f) (y.ev f)=some r):ad P w0 dr (.bin op bk x y) ⟨f,df⟩ S r S:=by
 unfold No at h
 split at h
 ·rename_i e he
  obtain rfl:=Option.some.inj h
  exact ad.bit he
 ·split at h
  ·rename_i k i k' j h1 h2
   split at h
   ·rename_i c hc hk
    have hk:=of_decide_eq_true hk
    subst hk
    obtain rfl:=Option.some.inj h
    exact ad.ari h1 h2 hc
   ·cases h
   ·split at h
    ·rename_i c hc
     obtain rfl:=Option.some.inj h
     exact ad.afC h1 h2 (K3 hc)
    ·cases h
  ·rename_i s t h1 h2
   split at h
   ·rename_i hl
    obtain rfl:=Option.some.inj h
    exact ad.cat h1 h2 (Nat.le_of_ble_eq_true (by assumption))
   ·cases h
  ·split at h
   ·split at h
    ·rename_i b hb
     split at h
     ·rename_i d hd
      obtain rfl:=Option.some.inj h
      exact ad.nil hb hd
     ·cases h
    ·cases h
   ·cases h
theorem ad.afD {len n:Nat}{x i:QO}{row:List AV}{ik:IntKind}{j:Int}(h1:x.ev α.tm=.ip row) (h2:i.ev α.tm=.v (.int ik j)) (h3:0<=j) (h4:j < len):ad P w0 dr (.o6 len n x i) α S (.ip (row.drop (j.toNat*n))) S:=by
 refine ad.of rfl fun o hr=>?_
 cases o<;>simp only [res,b_,ec] at hr<;>(repeat' split at hr)<;>(try cases hr)
 rw [aU] at h1 h2
 simp only [bm,h1,h2,‹P.underlying _=_›,‹cS P _=_›]
 exact⟨h3,h4,rfl,rfl⟩
theorem ad.aaF {len n:Nat}{x i:QO}{k sz p q:Nat}{ik:IntKind}{j:Int}(h1:x.ev α.tm=.pt k sz p q) (h2:i.ev α.tm=.v (.int ik j)) (h3:0<=j) (h4:j < len):ad P w0 dr (.o6 len n x i) α S (.pt k sz p (q+j.toNat*n)) S:=by
 refine ad.of rfl fun o hr=>?_
 cases o<;>simp only [res,b_,ec] at hr<;>(repeat' split at hr)<;>(try cases hr)
 rw [aU] at h1 h2
 simp only [bm,h1,h2,‹P.underlying _=_›,‹cS P _=_›]
 exact⟨h3,h4,rfl,rfl⟩
theorem Bp {q:dz}{f:Nat->AV}{df:List DE}{r:AV}(h:ru dr q f=some r):ad P w0 dr q ⟨f,df⟩ S r S:=by
 have quiet:∀ {q:dz},(match Aq q with|true=>(match ix q f ae.none_ with|some (r,_)=>some r|none=>none)|false=>none)=some r->ad P w0 dr q ⟨f,df⟩ S r S:=fun {q} h=>by
  split at h
  ·rename_i hp
   split at h
   ·rename_i r' S1 hq
    obtain rfl:=Option.some.inj h
    exact ad.quiet (Ds hp hq S)
   ·cases h
  ·cases h
 cases q with
 |bin op bk x y=>exact Hu h
 |neg x =>
  simp only [ru] at h
  split at h
  ·rename_i hx;obtain rfl:=Option.some.inj h;exact ad.neg hx
  ·cases h
 |conv k x =>
  simp only [ru] at h
  split at h
  ·rename_i hx;obtain rfl:=Option.some.inj h;exact ad.conv hx
  ·cases h
 |qf x =>
  simp only [ru] at h
  split at h
  ·rename_i hx;obtain rfl:=Option.some.inj h;exact ad.qf hx
  ·cases h
 |copy sz x y =>
  simp only [ru] at h
  split at h
  ·rename_i hx hy;obtain rfl:=Option.some.inj h;exact ad.afA hx hy
  ·cases h
 |r_ m x i =>
  simp only [ru] at h
  split at h
  ·rename_i ik j hi
   split at h
   ·rename_i ex rows hx
    split at h
    ·rename_i ha
     split at h
     ·rename_i row hr
      obtain rfl:=Option.some.inj h
      exact ad.ind hx hi hr (fk ha)
     ·cases h
    ·cases h
   ·rename_i k m' off len cx hx
    split at h
    ·rename_i hb
     simp only [Bool.and_eq_true] at hb
     have h1:=Nat.eq_of_beq_eq_true hb.1
     have h2:=of_decide_eq_true hb.2
     subst h1
     obtain rfl:=Option.some.inj h
     exact ad.afE hx hi h2.1 h2.2
    ·cases h
   ·cases h
  ·cases h
 |o6 len n x i =>
  simp only [ru] at h
  split at h
  ·rename_i ik j hi
   split at h
   ·rename_i hd
    have hd:=of_decide_eq_true hd
    split at h
    ·rename_i row hx;obtain rfl:=Option.some.inj h;exact ad.afD hx hi hd.1 hd.2
    ·rename_i k sz p q hx;obtain rfl:=Option.some.inj h;exact ad.aaF hx hi hd.1 hd.2
    ·cases h
   ·cases h
  ·cases h
 |vv x i =>
  simp only [ru] at h
  split at h
  ·rename_i hx hi
   split at h
   ·rename_i b hb;obtain rfl:=Option.some.inj h;exact ad.CT hx hi hb
   ·cases h
  ·cases h
 |mK len m k x i =>
  simp only [ru] at h
  split at h
  ·rename_i hx hi
   split at h
   ·rename_i hd
    have hd:=of_decide_eq_true hd
    exact ad.mK hx hi h hd.1 hd.2
   ·cases h
  ·cases h
 |slice k x lo hi mx=>exact Ht h
 |len str x =>
  simp only [ru] at h
  split at h
  ·rename_i m hm;obtain rfl:=Option.some.inj h;exact ad.len hm
  ·split at h
   ·obtain rfl:=Option.some.inj h;exact ad.VV (by assumption)
   ·cases h
 |min x y =>
  simp only [ru] at h
  split at h
  ·rename_i k a k' b hx hy
   split at h
   ·rename_i hd
    have hd:=of_decide_eq_true hd
    subst hd
    obtain rfl:=Option.some.inj h
    exact ad.min hx hy
   ·cases h
  ·cases h
 |max x y =>
  simp only [ru] at h
  split at h
  ·rename_i k a k' b hx hy
   split at h
   ·rename_i hd
    have hd:=of_decide_eq_true hd
    subst hd
    obtain rfl:=Option.some.inj h
    exact ad.max hx hy
   ·cases h
  ·cases h
 |_=>exact quiet h
end
end Go.Proofs.YtgphljokbodciaaGreat
