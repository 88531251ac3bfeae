import Derived.Test.YtbdcmpknicjopaaGreatTp20
namespace Go.Proofs.YtbdcmpknicjopaaGreat
set_option linter.all false
set_option maxRecDepth 100000
open Go.RowKit Proofs.Tryz
variable{K:List gw}{O:Hd}{P:Program}{Q:Exit->AA->ah->Prop}{S T:ah}{U:AA}{Y:World}{d:Option Nat}{g:Option (Nat×Bool)}{l:List QI}{n:Nat}{s:List Dc}
section
attribute [local irreducible] ao aF D H
def aoB:=aC func182 call182
def dE:List Nat:=[3,6,9,5,10,12,14,0,7,8,13,4,1,20,37,44,50,69,74,83,90,102,11,111]
theorem abv(ds:List Dc)(n:ByteArray)(a:Int):rT ds n a=if i_ ds n a=true then 0 else if ds.any (named n)=true then 9 else 7:=by grind[rT,i_,named]
theorem M1(ds:List Dc)(n:ByteArray)(a:Int)(l:ds.length<=1099511627776):ab Y 244 [g7 O ds,.v (.string n),iv a] (iv (rT ds n a)):=by
 have d:=yB (Y:=Y) (O:=O) ds n a l;rw[abv];let⟨o,f⟩:=aq (i_ ds n a);rw[<-f]at d⊢;clear f;let⟨v,g⟩:=aq (ds.any (named n));rw[<-g];refine st aov tN .v ?_;refine cC (τ:=Int) 0 0 [] (λp=>[(0,g7 O ds),(1,.v (.string n)),(2,.v (.int .i64 a)),(7,.v (.int .i64 p.2)),(8,.v (.int .i64 p.1))]) [] (λ_=>[]) ds.length (λk p=>p.2=if(ds.take k).any (named n)=true then 9 else 7) 7 rfl ?_;rintro i k c h y b;simp only at h b;refine I tN ?_;by_cases q:k<ds.length
 ·let⟨x,r,z⟩:=aA q;have s:(ds.take (k+1)).any (named n)=((ds.take k).any (named n)||named n x):=X;let⟨A,B⟩:=x;let⟨P,t⟩:=aq ((ds.take k).any (named n));rw[<-t]at b s;repeat' first|refine og tN (D.bh h r) ?_|refine bg tN (D.bit rfl) (λu=>?_) λu=>?_|refine lg tN λm j=>?_|refine ag tN λ_ _=>?_|refine xG tN ?_
  all_goals first|exfalso;simp only[decide_eq_true_eq,decide_eq_false_iff_not]at*;omega|refine H.bK (_,_) [] ?_ ?_ cq;grind[named];simp only;omega
 rw[aX_ Z,<-g]at b;cases o
 ·skip;repeat' first|apply bk tN d|refine cg tN (λe=>?_) λe=>?_|refine lg tN λm j=>?_|refine xG tN ?_|refine fq ?_
  all_goals first|omega|rw[b];exact aI.of_eq rfl
 ·skip;repeat' first|apply bk tN d|refine cg tN (λe=>?_) λe=>?_|refine lg tN λm j=>?_|refine xG tN ?_|refine fq ?_
  all_goals first|omega|exact aI.of_eq rfl
theorem ags(ds:List Dc)(l:List Gl)(v:ds.length<=1099511627776)(G:l.length<=1099511627776)(w:∀g∈l,g.a.length<=1099511627776):ab Y 245 [g7 O ds,er O l] (iv (lO ds l)):=by
 let⟨R,f⟩:=aq (lO ds l);rw[<-f];refine st aow wg .v ?_;refine bD 0 0 [] (λi=>[(0,g7 O ds),(1,er O l),(5,.v (.int .i64 i))]) [] (λ_=>[]) l.length (λk=>R=lO ds (l.drop k)) (by simpa using f) λi k y J b=>?_;clear f;refine I wg ?_;by_cases z:k<l.length
 ·let⟨x,r,A⟩:=aA z;rw[A,lO]at b;have B:=w x (as_ r);let⟨o,n,a⟩:=x;dsimp only at B;have h:=M1 (Y:=Y) (O:=O) ds n a.length v;have c:uZ ds ⟨o,n,a⟩=if o=0 then rT ds n a.length else 0:=rfl;let⟨j,s⟩:=aq (rT ds n a.length);rw[<-s]at c h;let⟨C,t⟩:=aq (uZ ds ⟨o,n,a⟩);rw[<-t]at c b;let⟨q,E⟩:∃q:Int,q=a.length:=⟨_,rfl⟩;rw[<-E]at h;clear s t;refine H.int rfl (D.len rfl) λK F=>?_;rw[az]at F;refine I wg ?_;repeat' first|refine og wg (D.bh y r) ?_|refine H.int rfl (D.len rfl) λm u=>?_;rw[az]at u;cases(Z:m=q);refine I wg ?_|refine ig wg (pl h) λd L=>?_|refine cg wg (λp=>?_) λp=>?_|refine ag wg λ_ _=>?_|refine xG wg ?_|refine rG wg ?_|refine fq ?_
  all_goals first
   |omega
   |(have e:C=0:=by rw[c];split<;>omega
     rw[bX e]at b;exact cB _ [] (k+1) b)
   |(have e:C=j:=by rw[c];split<;>omega
     rw[eB Z]at b;refine dx ?_;omega)
 ·skip;repeat' first|refine cg wg (λp=>?_) λp=>?_|refine lg wg λm u=>?_|refine xG wg ?_|refine fq ?_
  all_goals first|omega|rw[b,aq_ Z];exact dx rfl
def as0:=aC func92 call92
def g92:List Nat:=[4,0,1,3,2]
def as1:=aC func89 call89
def s8:List Nat:=[3,0,13,1,12,14,11]
def as2:=aC func43 call43
def Cr:List Nat:=[1,15,4,5,6,2,3,0,10,14,16,27]
def vf(d a:Dc):Bool:=d.n.toList==a.n.toList&&d.ar==a.ar
def xd(s:List Dc):List Dc->Int|[]=>0|d::l=>bw (cR (nR d.n) 7) (bw (cR (decide (0<=d.ar)&&decide (d.ar<=6)) 9) (bw (cR (!s.any (vf d)) 8) (xd (s++[d]) l)))
def wh(p:Pg):Int:=bw (cR (decide (p.ds.length<=30)) 6) (bw (xd [] p.ds) (cR (decide (p.rs.length<=40)) 6))
def vg(ds:List Dc):List Rl->Nat->Int×Int|[],_=>(0,0)|r::l,k=>if oK ds r=0 then vg ds l (k+1) else(k,oK ds r)
def s9(p:Pg):Int×Int:=if wh p=0 then vg p.ds p.rs 0 else(-1,wh p)
structure Cs(p:Pg):Prop where ds:p.ds.length<=1099511627776rs:p.rs.length<=1099511627776dn:∀d∈p.ds,d.n.size<=1099511627776rr:∀r∈p.rs,Co r
def P_(d:Dc):Value:=.agg #[.string d.n,.int .i64 d.ar]
def vh(l:List Dc):List (Value×AV):=l.map λd=>(P_ d,.v (.bool true))
def Iu(d:Dc)(k:Value):Bool:=match k with
 |.agg a=>match a.toList with|[.string n,.int _ i]=>d.n.toList==n.toList&&d.ar==i|_=>false
 |_=>false
theorem abw(d:Dc)(s:List Dc):qX (Iu d) (vh s)=none/\s.any (vf d)=false\/mK (Iu d) (vh s)=some (.v (.bool true))/\s.any (vf d)=true:=by induction s with|nil=>exact .inl ⟨rfl,rfl⟩|cons x s c =>have e:qX (Iu d) (vh (x::s))=if vf d x=true then some 0 else(qX (Iu d) (vh s)).map (·+1):=rfl;rw[mK,e,bI_];by_cases h:vf d x=true;rw[if_pos h,h];exact .inr ⟨rfl,rfl⟩;rw[if_neg h,cn_.2 h];rcases c with⟨a,f⟩|⟨a,f⟩;grind;right;rw[mK]at a;refine⟨?_,X⟩;cases b:qX (Iu d) (vh s) with|none=>rw[b]at a;cases a|some j=>rw[b]at a;exact a
theorem VV{a:Result Bool}{e:Bool}{w:World}(h:(a.andThen λb w'=>Result.ok (Value.bool b) w')=.ok (.bool e) w):a=.ok e w:=by cases a with|ok b w' =>simp only[Result.andThen,Result.ok.injEq,Value.bool.injEq]at h;rw[h.1,h.2]|_=>cases h
theorem Ua(d:Dc)(s:List Dc):Lz prog 60 (P_ d) (vh s) (Iu d):=by
 let⟨n,i⟩:=d;have a:prog.underlying 60=some (.struct (prog.fieldsOf 60)):=by kernel_rfl
 have c:=underlying3;have e:=underlying9;have f:=isAgg3;have g:=isAgg9;refine⟨λb w=>?_,⟨_,a⟩,λp j w=>?_⟩;have key:∀q:Nat,(Instr.checkKey b (q+1+1) 60 (P_ ⟨n,i⟩)).run prog w=.ok () w:=by
  intro q;have k:∀w,(Instr.checkKey b (q+1) 9 (.string n)).run prog w=.ok () w:=λw=>by rw[Instr.checkKey];simp only[Sem.run_bind,run_underlying e,Result.andThen_ok,Sem.run_pure]
  have l:∀w,(Instr.checkKey b (q+1) 3 (.int .i64 i)).run prog w=.ok () w:=λw=>by rw[Instr.checkKey];simp only[Sem.run_bind,run_underlying c,Result.andThen_ok,Sem.run_pure]
  rw[Instr.checkKey];simp only[Sem.run_bind,run_underlying a,Result.andThen_ok,P_];simp only[Program.fieldsOf,underlying60];simp[part,f,g,k,l]
 exact key 9998;obtain⟨m,_,rfl⟩:=aD_.1 j;let⟨o,r⟩:=m;have h:=(TI n o i r).2.2 w;rw[run_eql_struct]at h;exact VV h
section
variable{rd:Bool}
theorem Ub{B:Nat}:kp B (.mp (O.h vh s)):=by rw[O.eq];intro e a;obtain⟨p,_,rfl⟩:=aD_.1 a;exact .v
theorem H.ajs(O:Hd)(a:bC U.tm g=some true)(b:∀s:List Dc,s=[]->H P Y rd n Q (.bj false l K) (bU d U (.mp S.nx)) (S.new (.mp (O.h vh s)))):H P Y rd n Q (.bj false (⟨d,g,.kN none⟩::l) K) U S:=by have h:=b [] rfl;rw[O.eq]at h;exact H.op (i:=⟨d,g,.kN none⟩) a D.kN h
theorem H.aoC{z:AV}{x i:QO}{k:Nat}{v:Dc}(c:bC U.tm g=some true)(e:x.ev U.tm=.mp k)(f:S.get k=some (.mp (O.h vh s)))(hi:toV (i.ev U.tm)=some (P_ v))(o:s.any (vf v)=true->H prog Y rd n Q (.bj false l K) (bU d U (.v (.bool true))) S)(j:qX (Iu v) (vh s)=none->s.any (vf v)=false->H prog Y rd n Q (.bj false l K) (bU d U z) S):H prog Y rd n Q (.bj false (⟨d,g,.mK 60 z false x i⟩::l) K) U S:=by
 have h:=D.mK (P:=prog) (Y:=Y) (z:=z) (cm:=false) e f hi (by rw[O.eq];exact Ua v s);rw[O.eq]at h;refine H.op (i:=⟨d,g,.mK 60 z false x i⟩) c h ?_;rcases abw v s with⟨a,b⟩|⟨a,b⟩;have m:mK (Iu v) (vh s)=none:=by rw[mK,a]
 rw[m];exact j a b;grind
theorem H.aoD{x i b:QO}{k:Nat}{v:Dc}(f:bC U.tm g=some true)(j:x.ev U.tm=.mp k)(m:S.get k=some (.mp (O.h vh s)))(hi:toV (i.ev U.tm)=some (P_ v))(o:qX (Iu v) (vh s)=none)(p:b.ev U.tm=.v (.bool true))(q:∀a,a=s++[v]->H prog Y rd n Q (.bj false l K) (bU d U (.v undef)) (S.set k (some (.mp (O.h vh a))))):H prog Y rd n Q (.bj false (⟨d,g,.Ax 60 x i b⟩::l) K) U S:=by
 have h:=D.Ax (P:=prog) (Y:=Y) (c:=Iu v) j m hi (by rw[O.eq];exact Ua v s) (by rw[O.eq];exact o) p;have e:O.h vh s++[(P_ v,.v (.bool true))]=O.h vh (s++[v]):=by rw[O.eq,O.eq,vh,vh,ba_];rfl
 rw[e]at h;exact H.op (i:=⟨d,g,.Ax 60 x i b⟩) f h (q _ rfl)
end
theorem Uc{g:FuncId}{fs cs:List AV}{E:Int}(a:ja (fs++cs))(h:Du Y g (fs++cs) E):ab Y 88 [.fn (.func g) fs cs] (iv E):=by have b:=abm a h;by_cases e:E=0;grind;grind
theorem S8(ds:List Dc)(r:Rl)(k:ds.length<=1099511627776)(l:Co r):ab Y 92 [g7 O ds,rl O r] (iv (oK ds r)):=by
 have m:Pure (.ip (lY O r)):=.ip (DA r);have c:Pure (.ip [g7 O ds]):=.ip λa e=>by grind[eL]
 have f:=Uc (fs:=[]) (cs:=[.ip (lY O r),.ip [g7 O ds]]) ⟨m,c,trivial⟩ (ajc (Y:=Y) (O:=O) ds r k l);have o:Pure (.fn (.func 157) [] [.ip (lY O r),.ip [g7 O ds]]):=.fn (λa e=>X) λa e=>X;let⟨E,p⟩:=aq (oK ds r);rw[<-p]at f⊢;let⟨n,i,j,g,b,v⟩:=r;refine st as0 g92 .v ?_;repeat' first|refine og g92 (D.tt rfl f ⟨o,trivial⟩ .v ⟨aI.fns trivial ⟨aI.box (cs:=lY O ⟨n,i,j,g,b,v⟩) (cs':=lY O ⟨n,i,j,g,b,v⟩) rfl ⟨.refl _,.refl _,.refl _,.refl _,.refl _,.refl _,trivial⟩,aI.box (cs:=[g7 O ds]) (cs':=[g7 O ds]) rfl ⟨.refl _,trivial⟩,trivial⟩,trivial⟩) ?_|refine fq ?_
 exact dx rfl
theorem abx(p:Pg)(w:Cs p):Du Y 89 [.ip (jk O p)] (wh p):=by
 have L:Pure (.ip (jk O p)):=.ip (qZ p);let⟨d,j⟩:=p;let⟨y,z,n,_⟩:=w;dsimp only at y z n;let⟨E,a⟩:=aq (wh ⟨d,j⟩);rw[<-a];rw[wh]at a;dsimp only at a;let⟨T,o⟩:=aq (cR (decide (j.length<=40)) 6);rw[<-o]at a;refine Od as1.2 (by simp[ntmps89]) ?_;refine I s8 ?_;repeat' first|refine H.uY rfl rfl (λb=>?_) λb=>?_<;>(try simp only[bW]at b)<;>(first|exact dy b|refine I s8 ?_)|refine sK rfl (by first|rfl) ?_|refine cg s8 (λb=>?_) λb=>?_|refine lg s8 λm h=>?_
 all_goals first|rw[decide_eq_false Z]at a;exact a|skip
 rw[decide_eq_true Z,show cR true 6=0 from rfl,bX rfl]at a;refine H.ajs O rfl λA B=>?_;refine I s8 ?_;refine H.int rfl (D.len rfl) λm h=>?_;rw[az]at h;refine I s8 ?_;refine cC (τ:=List Dc) 1 1 [] (λq=>[(0,.ip (jk O ⟨d,j⟩)),(1,.mp 0),(11,g7 O d),(12,.v (.int .i64 m)),(13,.v (.int .i64 q.1))]) [] (λq=>[(0,.mp (O.h vh q.2))]) d.length (λk q=>E=bw (xd q.2 (d.drop k)) T) A (by rw[B];simpa using a) (hC:=by exact⟨sq,rfl,⟨.inl ⟨_,rfl,.same Ub⟩,trivial⟩,rfl,rfl,rfl⟩) ?_;rintro i k s r N a;simp only at r a;refine I s8 ?_;by_cases F:k<d.length
 ·let⟨x,t,G⟩:=aA F;rw[G,xd,du,du,du]at a;have e:=n x (as_ t);have l:=BV (Y:=Y) x.n e;let⟨f,c⟩:=x;dsimp only at a e l;let⟨g,u⟩:=aq (nR f);rw[<-u]at a l;clear u;repeat' first|refine og s8 (D.bh r t) ?_|refine bg s8 (pl l) (λ_=>?_) λ_=>?_|refine H.aoC (v:=⟨f,c⟩) rfl rfl rfl rfl (λJ=>?_) λP J=>?_<;>refine I s8 ?_|refine H.aoD (v:=⟨f,c⟩) rfl rfl rfl rfl (by assumption) rfl λK Q=>?_;refine I s8 ?_|refine H.uY rfl rfl (λb=>?_) λb=>?_<;>(try simp only[bW]at b)<;>(first|exact dy b|refine I s8 ?_)|refine H.Dk ?_;refine I s8 ?_|refine I7 rfl (by conv=>lhs;cbv) ?_|refine sK rfl (by first|rfl) ?_|refine cg s8 (λb=>?_) λb=>?_|refine lg s8 λm h=>?_|refine ag s8 λ_ _=>?_|refine xG s8 ?_
  all_goals first|omega|rw[show g=true by assumption,show cR true 7=0 from rfl,bX rfl,decide_eq_true (show 0<=c by omega),decide_eq_true (show c<=6 by omega),show cR (true&&true) 9=0 from rfl,bX rfl,show s.any (vf ⟨f,c⟩)=false by assumption,show cR (!false) 8=0 from rfl,bX rfl]at a;exact bN (_,K) [] (k+1) X (hC:=by exact⟨sq,rfl,⟨.inl ⟨_,rfl,.same Ub⟩,trivial⟩,rfl,rfl,rfl⟩)|rw[show g=true by assumption,show cR true 7=0 from rfl,bX rfl,decide_eq_true (show 0<=c by omega),decide_eq_true (show c<=6 by omega),show cR (true&&true) 9=0 from rfl,bX rfl,show s.any (vf ⟨f,c⟩)=true by assumption]at a;exact a|rw[show g=true by assumption,show cR true 7=0 from rfl,bX rfl,decide_eq_false (show¬0<=c by omega)]at a;exact a|rw[show g=true by assumption,show cR true 7=0 from rfl,bX rfl,decide_eq_true (show 0<=c by omega),decide_eq_false (show¬c<=6 by omega)]at a;exact a|rw[show g=false by assumption]at a;exact a
 ·rw[aq_ Z,xd,bX rfl,o]at a;repeat' first|refine H.uY rfl rfl (λb=>?_) λb=>?_<;>(try simp only[bW]at b)<;>(first|exact dy b|refine I s8 ?_)|refine I7 rfl (by conv=>lhs;cbv) ?_|refine sK rfl (by first|rfl) ?_|refine cg s8 (λb=>?_) λb=>?_|refine lg s8 λm h=>?_|refine xG s8 ?_
  all_goals first|omega|rw[decide_eq_true Z]at a;exact a|rw[decide_eq_false Z]at a;exact a
theorem agt(p:Pg)(q:Cs p):ab Y 43 [pg O p] (.aL [iv (s9 p).1,iv (s9 p).2]):=by
 have r:Pure (.ip (jk O p)):=.ip (qZ p);have A:Pure (.fn (.func 89) [] [.ip (jk O p)]):=.fn (λa j=>by cases j) λa j=>by cases ar_.1 j;exact r
 have s:=Uc (fs:=[]) (cs:=[.ip (jk O p)]) ⟨r,trivial⟩ (abx (Y:=Y) (O:=O) p q);let⟨e,f⟩:=p;let⟨t,C,G,u⟩:=q;dsimp only at t C G u;let⟨R,c⟩:=aq (s9 ⟨e,f⟩);rw[<-c];rw[s9]at c;let⟨E,J⟩:=aq (wh ⟨e,f⟩);rw[<-J]at c s;dsimp only at c;refine st as2 Cr (.aL λa j=>by simp only[al_,ax_,or_false]at j;rcases j with rfl|rfl<;>exact .v) ?_;repeat' first|refine ig Cr (D.tt rfl s ⟨A,trivial⟩ .v ⟨aI.fns trivial ⟨aI.box (cs:=jk O ⟨e,f⟩) (cs':=jk O ⟨e,f⟩) rfl ⟨.refl _,.refl _,trivial⟩,trivial⟩,trivial⟩) λd o=>?_|refine cg Cr (λl=>?_) λl=>?_|refine lg Cr λm S=>?_|refine fq ?_
 rw[if_neg Z]at c;rw[c,o];exact aI.of_eq rfl;rw[if_pos Z]at c;refine bD 1 1 [] (λi=>[(1,.pt 0 2 0 0),(14,.v (.int .i64 m)),(15,.v (.int .i64 i))]) [] (λ_=>[(0,.arr 2 [jk O ⟨e,f⟩] 0 true)]) f.length (λk=>R=vg e (f.drop k) k) (by simpa using c) λi k w T h=>?_;clear c;refine I Cr ?_;by_cases L:k<f.length
 ·let⟨x,y,M⟩:=aA L;rw[M,vg]at h;have z:=S8 (Y:=Y) (O:=O) e x t (u x (as_ y));let⟨F,N⟩:=aq (oK e x);rw[<-N]at h z;have V:=lh (O:=O) x;let⟨n,W,re,g,b,v⟩:=x;repeat' first|refine og Cr (D.bh w y) ?_|refine ig Cr (pl z) λd2 P=>?_|refine cg Cr (λl=>?_) λl=>?_|refine ag Cr λ_ _=>?_|refine xG Cr ?_|refine rG Cr ?_|refine fq ?_
  all_goals first|omega|rw[if_pos (show F=0 by omega)]at h;exact cB _ [] (k+1) h|rw[if_neg (show¬F=0 by omega)]at h;subst P;rw[h,<-w];exact aI.of_eq rfl
 ·rw[aq_ Z,vg]at h;repeat' first|refine cg Cr (λl=>?_) λl=>?_|refine xG Cr ?_|refine fq ?_
  all_goals first|omega|rw[h];exact aI.of_eq rfl
end
def wO(p:Pg)(s:c_)(x:Gl):Bool:=de x&&je (varsOf x.a) s.fresh s.binds&&(g8 x.op||decide (x.op=0)&&i_ p.ds x.n x.a.length)
def AT(p:Pg)(s:c_)(x:Im):Bool:=decide (x.id<s.next)&&je (varsOf x.a) s.fresh s.binds&&i_ p.ds x.n x.a.length
def vi(s:c_)(x:Gl):Bool:=nr x.op&&de x&&je (varsOf x.a) s.fresh s.binds
set_option maxHeartbeats 1000000 in theorem ajt(p:Pg)(s:c_)(c:List Int)(y:∀v,c.contains v=j8 s.binds v)(z:p.ds.length<=1099511627776)(x:Gl)(b:Fu x):aF prog Y 61 [.pt 0 11 0 0,gl O x] (aw [(0,vN O p s),(1,uq O (j7 c))] 2) (.v (.bool (wO p s x))) (aw [(0,vN O p s),(1,uq O (j7 c))] 2):=by
 have A:=vd (O:=O) (N:=2) aD p s;have q1:=ve (O:=O) (N:=2) (j7 c);have g:=BX (Y:=Y) (O:=O) x ⟨b.1.len,b.1.1⟩ b.2;have h:=Dj (Y:=Y) (O:=O) x b.1.len b.1.1 (wb b.1);have d:=P7 (Y:=Y) (O:=O) p s c y (varsOf x.a) (ug b.1);have i:=T9 (Y:=Y) (O:=O) x;have e:=Di (Y:=Y) (O:=O) p.ds x.n x.a.length z;have K:=b.1.len;have j:=jH (O:=O) x;let⟨R,f⟩:=aq (wO p s x);rw[<-f];unfold wO at f;let⟨G,k⟩:=aq (de x);let⟨F,l⟩:=aq (je (varsOf x.a) s.fresh s.binds);let⟨n,o⟩:=aq (g8 x.op);let⟨r,t⟩:=aq (i_ p.ds x.n x.a.length);let⟨u,w⟩:=aq (decide (x.op=0));rw[<-k,<-l,<-o,<-t,<-w]at f;rw[<-k]at g;rw[<-l]at d;rw[<-o]at i;rw[<-t]at e;let⟨P,B⟩:=aq (varsOf x.a);rw[<-B]at h d;let⟨q,C⟩:∃q:Int,q=x.a.length:=⟨_,rfl⟩;rw[<-C]at e;clear k l o t B y b;let⟨Q,S⟩:=p;let⟨goals,store,T,V,W,next,fresh,failed⟩:=s;let⟨xo,xn,xa⟩:=x;dsimp only at w C e K z;let⟨kv,E⟩:=aq (j7 c);rw[<-E]at d q1⊢;clear E;unfold vN uq ckR;refine sc 2 2 asW ?_;refine I MY ?_;repeat' first|refine bg MY (D.bO rfl g ⟨j,trivial⟩) (λ_=>?_) λ_=>?_|refine og MY (D.bO rfl h ⟨j,trivial⟩) ?_|refine bg MY (D.Hu d rfl (Cd rfl rfl rfl A q1) (λa J=>by simp only[al_,ax_,or_false]at J;rcases J with rfl|rfl;exact .pt aD;exact Pure.bu (bZ _)) .v) (λ_=>?_) λ_=>?_|refine bg MY (D.bO rfl i ⟨j,trivial⟩) (λ_=>?_) λ_=>?_|refine H.int rfl (D.len rfl) λm L=>?_;rw[az]at L;cases(Z:m=q);refine I MY ?_|refine bg MY (D.bO rfl e ⟨eL _,.v,.v,trivial⟩) (λ_=>?_) λ_=>?_|refine cg MY (λM=>?_) λM=>?_|refine fq ?_
 all_goals clear g h d i e;subst f;cases G<;>cases F<;>cases n<;>cases r<;>cases u<;>first|exfalso;contradiction|exfalso;simp at w;omega|exact⟨[],.aJ .v,⟨.inl ⟨_,rfl,.same A.1⟩,.inl ⟨_,rfl,.same q1.1⟩,trivial⟩,rfl⟩
set_option maxHeartbeats 1000000 in theorem aju(p:Pg)(s:c_)(b:List Int)(n:∀v,b.contains v=j8 s.binds v)(o:p.ds.length<=1099511627776)(x:Im)(c:x.ok):aF prog Y 63 [.pt 0 11 0 0,it O x] (aw [(0,vN O p s),(1,uq O (j7 b))] 2) (.v (.bool (AT p s x))) (aw [(0,vN O p s),(1,uq O (j7 b))] 2):=by
 have r:=vd (O:=O) (N:=2) aD p s;have q1:=ve (O:=O) (N:=2) (j7 b);have d:=J5 (Y:=Y) (O:=O) ⟨x.n,x.a⟩ c.1.len c.1.1 (wb c.1);have e:=P7 (Y:=Y) (O:=O) p s b n (varsOf x.a) (ug c.1);have f:=Di (Y:=Y) (O:=O) p.ds x.n x.a.length o;have A:=c.1.len;have t:=ud (O:=O) ⟨x.n,x.a⟩;let⟨R,g⟩:=aq (AT p s x);rw[<-g];unfold AT at g;let⟨F,h⟩:=aq (je (varsOf x.a) s.fresh s.binds);let⟨i,j⟩:=aq (i_ p.ds x.n x.a.length);let⟨k,l⟩:=aq (decide (x.id<s.next));rw[<-h,<-j,<-l]at g;rw[<-h]at e;rw[<-j]at f;let⟨E,u⟩:=aq (varsOf x.a);dsimp only at d;rw[<-u]at d e;let⟨q,w⟩:∃q:Int,q=x.a.length:=⟨_,rfl⟩;rw[<-w]at f;clear h j u n c;let⟨G,J⟩:=p;let⟨goals,store,K,L,M,next,fresh,failed⟩:=s;let⟨P,Q,S⟩:=x;dsimp only at l w f A o d t;let⟨T,y⟩:=aq (j7 b);rw[<-y]at e q1⊢;clear y;unfold vN uq ckR;refine sc 2 2 asX ?_;refine I T8 ?_;repeat' first|refine og T8 (D.bO rfl d ⟨t,trivial⟩) ?_|refine bg T8 (D.Hu e rfl (Cd rfl rfl rfl r q1) (λa z=>by simp only[al_,ax_,or_false]at z;rcases z with rfl|rfl;exact .pt aD;exact Pure.bu (bZ _)) .v) (λ_=>?_) λ_=>?_|refine H.int rfl (D.len rfl) λm B=>?_;rw[az]at B;cases(Z:m=q);refine I T8 ?_|refine bg T8 (D.bO rfl f ⟨eL _,.v,.v,trivial⟩) (λ_=>?_) λ_=>?_|refine cg T8 (λC=>?_) λC=>?_|refine fq ?_
 all_goals clear d e f;subst g;cases F<;>cases i<;>cases k<;>first|exfalso;contradiction|exfalso;simp at l;omega|exact⟨[],.aJ .v,⟨.inl ⟨_,rfl,.same r.1⟩,.inl ⟨_,rfl,.same q1.1⟩,trivial⟩,rfl⟩
set_option maxHeartbeats 1000000 in theorem agu(p:Pg)(s:c_)(c:List Int)(r:∀v,c.contains v=j8 s.binds v)(x:Gl)(b:Fu x):aF prog Y 64 [.pt 0 11 0 0,gl O x] (aw [(0,vN O p s),(1,uq O (j7 c))] 2) (.v (.bool (vi s x))) (aw [(0,vN O p s),(1,uq O (j7 c))] 2):=by
 have f:=vd (O:=O) (N:=2) aD p s;have q1:=ve (O:=O) (N:=2) (j7 c);have g:=BX (Y:=Y) (O:=O) x ⟨b.1.len,b.1.1⟩ b.2;have h:=Dj (Y:=Y) (O:=O) x b.1.len b.1.1 (wb b.1);have d:=P7 (Y:=Y) (O:=O) p s c r (varsOf x.a) (ug b.1);have t:=jH (O:=O) x;let⟨R,e⟩:=aq (vi s x);rw[<-e];unfold vi nr at e;let⟨G,i⟩:=aq (de x);let⟨F,j⟩:=aq (je (varsOf x.a) s.fresh s.binds);let⟨k,l⟩:=aq (decide (5<=x.op));let⟨m,n⟩:=aq (decide (x.op<=12));rw[<-i,<-j,<-l,<-n]at e;rw[<-i]at g;rw[<-j]at d;let⟨z,u⟩:=aq (varsOf x.a);rw[<-u]at h d;clear i j u r b;let⟨A,o⟩:=aq (vN O p s);let⟨B,q⟩:=aq (uq O (j7 c));rw[<-o,<-q]at d⊢;rw[<-o]at f;rw[<-q]at q1;clear o q;let⟨C,E,J⟩:=x;dsimp only at n l;refine sc 2 2 asY ?_;refine I Yz ?_;repeat' first|refine bg Yz (D.bO rfl g ⟨t,trivial⟩) (λ_=>?_) λ_=>?_|refine og Yz (D.bO rfl h ⟨t,trivial⟩) ?_|refine bg Yz (D.Hu d rfl (Cd rfl rfl rfl f q1) (λa w=>by simp only[al_,ax_,or_false]at w;rcases w with rfl|rfl;exact .pt aD;exact Pure.bu (bZ _)) .v) (λ_=>?_) λ_=>?_|refine cg Yz (λy=>?_) λy=>?_|refine fq ?_
 all_goals clear g h d;subst e;cases G<;>cases F<;>cases k<;>cases m<;>first|exfalso;contradiction|exfalso;simp at n l;omega|exact⟨[],.aJ .v,⟨.inl ⟨_,rfl,.same f.1⟩,.inl ⟨_,rfl,.same q1.1⟩,trivial⟩,rfl⟩
section
attribute [local irreducible] ao aF D H
def as3:=aC func30 call30
def sE:List Nat:=[3,7,71,2,4,0,1,6,16,46,62,70,72,69,9]
theorem Kr{T:Type}{ok:T->Bool}{lt:T->T->Bool}:∀{l:List T}{pr:Option T},kW ok lt pr l=true->∀x∈l,ok x=true|[],_,_,x,a=>X|y::l,pr,h,x,a=>by rw[jT,au_,au_]at h;rcases al_.1 a with rfl|a;grind;exact Kr h.2 x a
theorem FY{l:List Fi}(h:k_ l=true):∀x∈l,0<=x.tG:=by intro x a;unfold k_ at h;rw[au_]at h;have:=Kr h.2 x a;by_cases c:0<=x.tG;grind;let⟨r,b⟩:=x;rw[I8 (.inl X)]at this;cases this
theorem YD{s:List Int}{i:Int}(h:s.contains i=true):gU (j7 s) i true=j7 s:=by induction s with|nil=>cases h|cons x s a =>by_cases e:x=i;grind[j7,gU];grind[j7,gU]
def Qb(s:List Int)(i:Int):List Int:=if s.contains i=true then s else s++[i]
theorem aby(s:List Int)(i:Int):gU (j7 s) i true=j7 (Qb s i):=by grind[Qb,YD,Pm]
theorem abz(s:List Int)(i v:Int):(Qb s i).contains v=(s.contains v||i==v):=by grind[Qb]
def YE(O:Hd)(p:Pg)(s:c_):Ob:=.arr 11 [[g7 O p.ds,Ty O p.rs,er O s.goals,kS O s.store,a8 O s.binds,ky O s.bf,er O s.known,iv s.next,iv s.fresh,.v (.bool s.failed),.mp 2]] 0 true
def FZ(s:c_):Bool:=decide (s.goals.length<=1000)&&decide (s.known.length<=500)&&decide (1<=s.next)&&decide (s.next<=2147483648)&&decide (0<=s.fresh)&&decide (s.fresh<=1048576)
def eY(p:Pg)(s:c_):Bool:=decide ((s9 p).2=0)&&(FZ s&&(nL s.store&&(m7 s.binds&&(k_ s.bf&&(s.goals.all (wO p s)&&(s.store.all (AT p s)&&(s.known.all (vi s)&&(s.bf.all (AI p s)&&s.binds.all (Dx s)))))))))
structure Iv(s:c_):Prop where
 gl:s.goals.length<=1099511627776st:s.store.length<=1099511627776bl:s.binds.length<=1099511627776fl:s.bf.length<=1099511627776kl:s.known.length<=1099511627776gx:∀x∈s.goals,Fu x
 sx:∀x∈s.store,x.ok
 bx:∀x∈s.binds,x.ok
 fx:∀x∈s.bf,x.ok
 kx:∀x∈s.known,Fu x
theorem Qc(kv:List (Int×Bool)):∀e∈O.h (dT fB) kv,Pure e.2:=by rw[O.eq];intro e a;obtain⟨p,_,rfl⟩:=aD_.1 a;exact .v
theorem D.evS{f:QO}{c:List QO}{g h:FuncId}{L:AV}{b:Bool}{p:Pg}{s:c_}{kv:List (Int×Bool)}(d:aF prog Y g [L,.fn (.func h) [.pt 0 11 0 0] []] (aw [(0,vN O p s),(1,uq O kv)] 2) (.v (.bool b)) (aw [(0,vN O p s),(1,uq O kv)] 2))(e:Pure L)(a:fk (f.ev U.tm) (c.map (·.ev U.tm))=some (g,[L,.fn (.func h) [.pt 3 11 0 0] []]))(h3:T.get 3=some (YE O p s))(h2:T.get 2=some (uq O kv))(i:Nat.ble 4 T.nx=true)(j:∀k o,T.get k=some o->k<T.nx):D prog Y false (.call f c) U T (.v (.bool b)) ⟨eE T.get [(3,some (YE O p s)),(2,some (uq O kv))],T.nx+2⟩:=by have l:=ay_ i;refine D.nS (m:=[(0,3),(1,2)]) d a ⟨Rn.pure e,Rn.fn ⟨Rn.pt rfl rfl,trivial⟩ trivial,trivial⟩ (Rb.pure .v) rfl ?_ ⟨⟨_,h3,?_⟩,⟨_,h2,?_⟩,trivial⟩ ⟨⟨0,_,rfl,rfl,?_⟩,⟨1,_,rfl,rfl,?_⟩,trivial⟩ rfl j (.inr rfl);have h3:Nat.blt 3 T.nx=true:=ca_ Z;have h2:Nat.blt 2 T.nx=true:=ca_ Z;show(Nat.blt 3 T.nx&&(Nat.blt 2 T.nx&&true))=true;rw[h3,h2];rfl;exact lJ.row ⟨Rn.pure (eL _),Rn.pure (pP _),Rn.pure (a7 _),Rn.pure (dQ _),Rn.pure (bI _),Rn.pure (eN _),Rn.pure (a7 _),Rn.pure .v,Rn.pure .v,Rn.pure .v,Rn.mp rfl rfl,trivial⟩;exact lJ.mp (Qc kv);exact mP.row ⟨Rb.pure (eL _),Rb.pure (pP _),Rb.pure (a7 _),Rb.pure (dQ _),Rb.pure (bI _),Rb.pure (eN _),Rb.pure (a7 _),Rb.pure .v,Rb.pure .v,Rb.pure .v,Rb.mp rfl,trivial⟩;exact mP.mp (Qc kv)
end
end Go.Proofs.YtbdcmpknicjopaaGreat
