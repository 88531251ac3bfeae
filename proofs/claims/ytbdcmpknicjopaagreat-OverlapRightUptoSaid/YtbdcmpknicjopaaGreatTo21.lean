import Derived.Test.YtbdcmpknicjopaaGreatTo20
namespace Go.Proofs.YtbdcmpknicjopaaGreat
set_option linter.all false
set_option maxRecDepth 100000
open Go.RowKit Proofs.Tryz
variable{K:List iu}{O:Hd}{P:Program}{Q:Exit->AA->ao->Prop}{S:ao}{U:World}{Y:AA}{d:Option Nat}{g:Option (Nat×Bool)}{l:List QI}{n:Nat}{s:List Dc}
section
attribute [local irreducible] aq aG D I
def aqg:=aD func244 call244
def uq:=[8,0,1,6,12,21,2,25,7]
def aqh:=aD func245 call245
def wR:=[5,1,6,4,10,18,0,33]
def aqi:=aD func246 call246
def akM:=[0,2]
def aqj:=aD func248 call248
def Aw:=[5,0,4,9,1,17]
theorem W0(r:Rl)(h:r.aP.length+r.rem.length<=549755813888)(F:r.guard.length+r.body.length<=549755813888)(s:(gH (r.aP++r.rem)++nO (r.guard++r.body)).length<=549755813888)(l:dO (gH (r.aP++r.rem)++nO (r.guard++r.body)))(G:(a7 (gH (r.aP++r.rem)++nO (r.guard++r.body))).length<=1099511627776):ad U 181 [rl O r] (aQ O aH false (varsOf (gH (r.aP++r.rem)++nO (r.guard++r.body)))):=by
 have J:=Ip (U:=U) (O:=O) r h;have K:=MG (U:=U) (O:=O) r F;have a:=DZ (U:=U) (O:=O) (gH (r.aP++r.rem)++nO (r.guard++r.body)) X l G;have tF:=fQ (O:=O) r;have uL:(r.aP++r.rem).length<=549755813888:=Z;have Rh:(r.guard++r.body).length<=549755813888:=Z;clear l G h F;let⟨L,N⟩:=au (r.aP++r.rem);let⟨M,P⟩:=au (r.guard++r.body);rw[<-N]at J uL a s⊢;rw[<-P]at K Rh a s⊢;clear N P;let⟨A,Q⟩:=au (gH L++nO M);rw[<-Q]at a s⊢;let⟨V,R⟩:=au (varsOf A);rw[<-R]at a⊢;clear R;let⟨n,ke,re,g,b,v⟩:=r;refine st apD mO (a8 _) ?_;repeat' first|apply bh mO J
 refine cW (τ:=List Tm×Nat) 1 2 [] (λp=>[(1,.pt 0 6 0 0),(3,.gr 1 4 p.2.2),(4,dW O L),(5,.v (.int .i64 p.1))]) [] (λp=>[(0,.arr 6 [lV O ⟨n,ke,re,g,b,v⟩] 0 true),(1,Zy O p.2.1)]) L.length (λk p=>A=p.2.1++(gH (L.drop k)++nO M)/\p.2.2=p.2.1.length) ([],0) ⟨Z,rfl⟩ ?_;rintro i k⟨S,len⟩u l⟨c,o⟩;simp only at u c o;clear Q;refine H mO ?_;by_cases az:k<L.length
 ·let⟨x,w,y⟩:=aC az;rw[y,gH,bo_,<-gH]at c;have z:S.length+x.a.length<=549755813888:=Z;let⟨xn,xa⟩:=x;dsimp only at c z;repeat' first|refine og mO (D.bw u w) ?_|refine I.vh (f:=kN) rfl rfl rfl o (λ_=>rfl) rfl uM Au X λB C Lj pY=>?_;refine H mO ?_|refine cg mO (λd=>?_) λd=>?_|refine lg mO λm T=>?_|refine ag mO λ_ _=>?_|refine xG mO ?_
  all_goals first|omega|refine I.bu (_,B,C) [(1,2)] ?_ ?_ cz;grind;simp only;omega
 rw[ar_ X,gH,bO_,aS_]at c;repeat' first|apply bh mO K|refine cg mO (λd=>?_) λd=>?_|refine lg mO λm T=>?_|refine xG mO ?_
 all_goals first|omega|skip
 refine I.eH (σ:=Int×List Tm×Nat) 2 3 [(2,1)] (λp=>[(3,.gr 2 4 p.2.2),(6,dI O M),(7,.v (.int .i64 p.1))]) [] (λp=>[(2,Zy O p.2.1)]) (λp=>∃k:Nat,p.1=k/\k<=M.length/\A=p.2.1++nO (M.drop k)/\p.2.2=p.2.1.length) (λp=>M.length-p.1.toNat) (0,S,len) ⟨0,rfl,aE,Z,o⟩ rfl cz ?_;clear c o u l;rintro⟨j,ep,fZ⟩ ⟨q,W,hq,e,E⟩;simp only at W e E;refine H mO ?_;by_cases jK:q<M.length
 ·let⟨x,w,y⟩:=aC jK;rw[y,nO,bo_,<-nO]at e;have z:ep.length+x.a.length<=549755813888:=Z;let⟨xo,xn,xa⟩:=x;dsimp only at e z;repeat' first|refine og mO (D.bw W w) ?_|refine I.vh (f:=kN) rfl rfl rfl E (λ_=>rfl) rfl uM Au X λB C Lj pY=>?_;refine H mO ?_|refine cg mO (λd=>?_) λd=>?_|refine lg mO λm T=>?_|refine ag mO λ_ _=>?_|refine xG mO ?_
  all_goals first|omega|refine I.bu (_,B,C) [(2,3)] ?_ ?_ cz;grind;simp only;omega
 rw[ar_ X,nO,bO_,aI_]at e;subst e;refine I.int rfl (D.len rfl) λm2 iW=>?_;rw[aA]at iW;refine H mO ?_;refine I.bif rfl (D.bit rfl) (λcd=>?_) λcd=>?_<;>(try simp only[decide_eq_true_eq,decide_eq_false_iff_not]at cd);grind;refine H mO ?_;refine xG mO ?_;refine I.Aj (Cv.freeze (t:=38) rfl rfl (.inl rfl) (E.trans (aA (O:=O) (f:=kN)).symm) (aF_ _)) ?_;apply bh mO a;refine fq ?_;exact aL.of_eq rfl
theorem ZD(o:Int):ad U 246 [iv o] (.v (.bool (ny o))):=by
 refine st aqi akM .v ?_;repeat' first|refine cg akM (λa=>?_) λa=>?_|refine fq ?_
 all_goals subst_vars;refine aO ?_;rw[ny,bG_];simp;omega
theorem avd(l:List Int)(v:Int)(j:l.length<=1099511627776):ad U 248 [aQ O aH false l,iv v] (.v (.bool (l.contains v))):=by
 let⟨R,b⟩:=au (l.contains v);rw[<-b];rw[<-F4]at b;refine st aqj Aw .v ?_;refine bL 0 0 [] (λi=>[(0,aQ O aH false l),(1,.v (.int .i64 v)),(5,.v (.int .i64 i))]) [] (λ_=>[]) l.length (λk=>R=(l.drop k).any λx=>v==x) Z λi k d n a=>?_;clear b;refine H Aw ?_;by_cases e:k<l.length
 ·let⟨x,f,g⟩:=aC e;rw[g,bH_]at a;repeat' first|refine og Aw (D.bw d f) ?_|refine cg Aw (λc=>?_) λc=>?_|refine lg Aw λm h=>?_|refine ag Aw λ_ _=>?_|refine xG Aw ?_|refine rG Aw ?_|refine fq ?_
  all_goals first|omega|rw[a,show(v==x)=true from beq_iff_eq.2 X];exact aO rfl|rw[show(v==x)=false from beq_eq_false_iff_ne.2 X,Bool.false_or]at a;exact cw _ [] (k+1) a
 ·skip;repeat' first|refine cg Aw (λc=>?_) λc=>?_|refine lg Aw λm h=>?_|refine xG Aw ?_|refine fq ?_
  all_goals first|omega|rw[a,ar_ X];exact aO rfl
def ave:=aD func92 call92
def g92:=[4,0,1,3,2]
def avf:=aD func89 call89
def tG:=[3,0,13,1,12,14,11]
def avg:=aD func43 call43
def C3:=[1,15,4,5,6,2,3,0,10,14,16,27]
def vH(d a:Dc):Bool:=d.n.toList==a.n.toList&&d.ar==a.ar
def xP(s:List Dc):List Dc->Int|[]=>0|d::l=>bG (cX (nX d.n) 7) (bG (cX (decide (0<=d.ar)&&decide (d.ar<=6)) 9) (bG (cX (!s.any (vH d)) 8) (xP (s++[d]) l)))
def wS(p:Pg):Int:=bG (cX (decide (p.ds.length<=30)) 6) (bG (xP [] p.ds) (cX (decide (p.rs.length<=40)) 6))
def vI(ds:List Dc):List Rl->Nat->Int×Int|[],_=>(0,0)|r::l,k=>if oW ds r=0 then vI ds l (k+1) else(k,oW ds r)
def rH(p:Pg):Int×Int:=if wS p=0 then vI p.ds p.rs 0 else(-1,wS p)
structure Fb(p:Pg):Prop where ds:p.ds.length<=1099511627776rs:p.rs.length<=1099511627776dn:∀d∈p.ds,d.n.size<=1099511627776rr:∀r∈p.rs,Bv r
def Ri(d:Dc):Value:=.agg #[.string d.n,.int .i64 d.ar]
def vJ(l:List Dc):List (Value×AV):=l.map λd=>(Ri d,.v (.bool true))
def Jm(d:Dc)(k:Value):Bool:=match k with
 |.agg a=>match a.toList with|[.string n,.int _ i]=>d.n.toList==n.toList&&d.ar==i|_=>false
 |_=>false
theorem acN(d:Dc)(s:List Dc):rE (Jm d) (vJ s)=none/\s.any (vH d)=false\/mN (Jm d) (vJ s)=some (.v (.bool true))/\s.any (vH d)=true:=by induction s with|nil=>exact .inl ⟨rfl,rfl⟩|cons x s c =>have e:rE (Jm d) (vJ (x::s))=if vH d x=true then some 0 else(rE (Jm d) (vJ s)).map (·+1):=rfl;rw[mN,e,bH_];by_cases h:vH d x=true;rw[if_pos h,h];exact .inr ⟨rfl,rfl⟩;rw[if_neg h,di_.2 h];rcases c with⟨a,f⟩|⟨a,f⟩;grind;right;rw[mN]at a;refine⟨?_,Z⟩;cases b:rE (Jm d) (vJ s) with|none=>rw[b]at a;cases a|some j=>rw[b]at a;exact a
theorem W1{a:Result Bool}{e:Bool}{w:World}(h:(a.andThen λb w'=>Result.ok (Value.bool b) w')=.ok (.bool e) w):a=.ok e w:=by cases a with|ok b w' =>simp only[Result.andThen,Result.ok.injEq,Value.bool.injEq]at h;rw[h.1,h.2]|_=>cases h
theorem U_(d:Dc)(s:List Dc):MC prog 60 (Ri d) (vJ s) (Jm d):=by
 let⟨n,i⟩:=d;have a:prog.underlying 60=some (.struct (prog.fieldsOf 60)):=by kernel_rfl
 have c:=underlying3;have e:=underlying9;have f:=isAgg3;have g:=isAgg9;refine⟨λb w=>?_,⟨_,a⟩,λp j w=>?_⟩;have key:∀q:Nat,(Instr.checkKey b (q+1+1) 60 (Ri ⟨n,i⟩)).run prog w=.ok () w:=by
  intro q;have k:∀w,(Instr.checkKey b (q+1) 9 (.string n)).run prog w=.ok () w:=λw=>by rw[Instr.checkKey];simp only[Sem.run_bind,run_underlying e,Result.andThen_ok,Sem.run_pure]
  have l:∀w,(Instr.checkKey b (q+1) 3 (.int .i64 i)).run prog w=.ok () w:=λw=>by rw[Instr.checkKey];simp only[Sem.run_bind,run_underlying c,Result.andThen_ok,Sem.run_pure]
  rw[Instr.checkKey];simp only[Sem.run_bind,run_underlying a,Result.andThen_ok,Ri];simp only[Program.fieldsOf,underlying60];simp[part,f,g,k,l]
 exact key 9998;obtain⟨m,_,rfl⟩:=aE_.1 j;let⟨o,r⟩:=m;have h:=(UQ n o i r).2.2 w;rw[run_eql_struct]at h;exact W1 h
section
variable{rd:Bool}
theorem Va{B:Nat}:jm B (.mp (O.h vJ s)):=by rw[O.eq];intro e a;obtain⟨p,_,rfl⟩:=aE_.1 a;exact .v
theorem I.akN(O:Hd)(a:bJ Y.tm g=some true)(b:∀s:List Dc,s=[]->I P U rd n Q (.bp false l K) (bX d Y (.mp S.nx)) (S.new (.mp (O.h vJ s)))):I P U rd n Q (.bp false (⟨d,g,.kY none⟩::l) K) Y S:=by have h:=b [] rfl;rw[O.eq]at h;exact I.op (i:=⟨d,g,.kY none⟩) a D.kY h
theorem I.aqk{z:AV}{x i:QO}{k:Nat}{v:Dc}(c:bJ Y.tm g=some true)(e:x.ev Y.tm=.mp k)(f:S.get k=some (.mp (O.h vJ s)))(hi:toV (i.ev Y.tm)=some (Ri v))(o:s.any (vH v)=true->I prog U rd n Q (.bp false l K) (bX d Y (.v (.bool true))) S)(j:rE (Jm v) (vJ s)=none->s.any (vH v)=false->I prog U rd n Q (.bp false l K) (bX d Y z) S):I prog U rd n Q (.bp false (⟨d,g,.mN 60 z false x i⟩::l) K) Y S:=by
 have h:=D.mN (P:=prog) (U:=U) (z:=z) (cm:=false) e f hi (by rw[O.eq];exact U_ v s);rw[O.eq]at h;refine I.op (i:=⟨d,g,.mN 60 z false x i⟩) c h ?_;rcases acN v s with⟨a,b⟩|⟨a,b⟩;have m:mN (Jm v) (vJ s)=none:=by rw[mN,a]
 rw[m];exact j a b;grind
theorem I.aql{x i b:QO}{k:Nat}{v:Dc}(f:bJ Y.tm g=some true)(j:x.ev Y.tm=.mp k)(m:S.get k=some (.mp (O.h vJ s)))(hi:toV (i.ev Y.tm)=some (Ri v))(o:rE (Jm v) (vJ s)=none)(p:b.ev Y.tm=.v (.bool true))(q:∀a,a=s++[v]->I prog U rd n Q (.bp false l K) (bX d Y (.v undef)) (S.set k (some (.mp (O.h vJ a))))):I prog U rd n Q (.bp false (⟨d,g,.Bh 60 x i b⟩::l) K) Y S:=by
 have h:=D.Bh (P:=prog) (U:=U) (c:=Jm v) j m hi (by rw[O.eq];exact U_ v s) (by rw[O.eq];exact o) p;have e:O.h vJ s++[(Ri v,.v (.bool true))]=O.h vJ (s++[v]):=by rw[O.eq,O.eq,vJ,vJ,ba_];rfl
 rw[e]at h;exact I.op (i:=⟨d,g,.Bh 60 x i b⟩) f h (q _ rfl)
end
theorem Vb{g:FuncId}{fs cs:List AV}{E:Int}(a:iZ (fs++cs))(h:D6 U g (fs++cs) E):ad U 88 [.fn (.func g) fs cs] (iv E):=by have b:=acE a h;by_cases e:E=0;grind;grind
theorem Uh(ds:List Dc)(r:Rl)(k:ds.length<=1099511627776)(l:Bv r):ad U 92 [ir O ds,rl O r] (iv (oW ds r)):=by
 have m:Pure (.ip (lV O r)):=.ip (D9 r);have c:Pure (.ip [ir O ds]):=.ip λa e=>by grind[eM]
 have f:=Vb (fs:=[]) (cs:=[.ip (lV O r),.ip [ir O ds]]) ⟨m,c,trivial⟩ (akx (U:=U) (O:=O) ds r k l);have o:Pure (.fn (.func 157) [] [.ip (lV O r),.ip [ir O ds]]):=.fn (λa e=>Z) λa e=>Z;let⟨E,p⟩:=au (oW ds r);rw[<-p]at f⊢;let⟨n,i,j,g,b,v⟩:=r;refine st ave g92 .v ?_;repeat' first|refine og g92 (D.tU rfl f ⟨o,trivial⟩ .v ⟨aL.fns trivial ⟨aL.box (cs:=lV O ⟨n,i,j,g,b,v⟩) (cs':=lV O ⟨n,i,j,g,b,v⟩) rfl ⟨.refl _,.refl _,.refl _,.refl _,.refl _,.refl _,trivial⟩,aL.box (cs:=[ir O ds]) (cs':=[ir O ds]) rfl ⟨.refl _,trivial⟩,trivial⟩,trivial⟩) ?_|refine fq ?_
 exact dA rfl
theorem acO(p:Pg)(w:Fb p):D6 U 89 [.ip (oP O p)] (wS p):=by
 have K:Pure (.ip (oP O p)):=.ip (Ea p);let⟨d,j⟩:=p;let⟨y,z,n,_⟩:=w;dsimp only at y z n;let⟨E,a⟩:=au (wS ⟨d,j⟩);rw[<-a];rw[wS]at a;dsimp only at a;let⟨T,o⟩:=au (cX (decide (j.length<=40)) 6);rw[<-o]at a;refine O8 avf.2 (by simp[ntmps89]) ?_;refine H tG ?_;repeat' first|refine I.vq rfl rfl (λb=>?_) λb=>?_<;>(try simp only[bT]at b)<;>(first|exact dV b|refine H tG ?_)|refine sZ rfl (by first|rfl) ?_|refine cg tG (λb=>?_) λb=>?_|refine lg tG λm h=>?_
 all_goals first|rw[decide_eq_false X]at a;exact a|skip
 rw[decide_eq_true X,show cX true 6=0 from rfl,b_ rfl]at a;refine I.akN O rfl λs0 A=>?_;refine H tG ?_;refine I.int rfl (D.len rfl) λm h=>?_;rw[aA]at h;refine H tG ?_;refine cW (τ:=List Dc) 1 1 [] (λq=>[(0,.ip (oP O ⟨d,j⟩)),(1,.mp 0),(11,ir O d),(12,.v (.int .i64 m)),(13,.v (.int .i64 q.1))]) [] (λq=>[(0,.mp (O.h vJ q.2))]) d.length (λk q=>E=bG (xP q.2 (d.drop k)) T) s0 (by rw[A];simpa using a) (hC:=by exact⟨sq,rfl,⟨.inl ⟨_,rfl,.same Va⟩,trivial⟩,rfl,rfl,rfl⟩) ?_;rintro i k s r M a;simp only at r a;refine H tG ?_;by_cases C:k<d.length
 ·let⟨x,t,F⟩:=aC C;rw[F,xP,dz,dz,dz]at a;have e:=n x (as_ t);have l:=Cz (U:=U) x.n e;let⟨f,c⟩:=x;dsimp only at a e l;let⟨g,u⟩:=au (nX f);rw[<-u]at a l;clear u;repeat' first|refine og tG (D.bw r t) ?_|refine bg tG (pl l) (λ_=>?_) λ_=>?_|refine I.aqk (v:=⟨f,c⟩) rfl rfl rfl rfl (λG=>?_) λN G=>?_<;>refine H tG ?_|refine I.aql (v:=⟨f,c⟩) rfl rfl rfl rfl (by assumption) rfl λJ P=>?_;refine H tG ?_|refine I.vq rfl rfl (λb=>?_) λb=>?_<;>(try simp only[bT]at b)<;>(first|exact dV b|refine H tG ?_)|refine I.DV ?_;refine H tG ?_|refine J6 rfl (by conv=>lhs;cbv) ?_|refine sZ rfl (by first|rfl) ?_|refine cg tG (λb=>?_) λb=>?_|refine lg tG λm h=>?_|refine ag tG λ_ _=>?_|refine xG tG ?_
  all_goals first|omega|rw[show g=true by assumption,show cX true 7=0 from rfl,b_ rfl,decide_eq_true (show 0<=c by omega),decide_eq_true (show c<=6 by omega),show cX (true&&true) 9=0 from rfl,b_ rfl,show s.any (vH ⟨f,c⟩)=false by assumption,show cX (!false) 8=0 from rfl,b_ rfl]at a;exact cO (_,J) [] (k+1) Z (hC:=by exact⟨sq,rfl,⟨.inl ⟨_,rfl,.same Va⟩,trivial⟩,rfl,rfl,rfl⟩)|rw[show g=true by assumption,show cX true 7=0 from rfl,b_ rfl,decide_eq_true (show 0<=c by omega),decide_eq_true (show c<=6 by omega),show cX (true&&true) 9=0 from rfl,b_ rfl,show s.any (vH ⟨f,c⟩)=true by assumption]at a;exact a|rw[show g=true by assumption,show cX true 7=0 from rfl,b_ rfl,decide_eq_false (show¬0<=c by omega)]at a;exact a|rw[show g=true by assumption,show cX true 7=0 from rfl,b_ rfl,decide_eq_true (show 0<=c by omega),decide_eq_false (show¬c<=6 by omega)]at a;exact a|rw[show g=false by assumption]at a;exact a
 ·rw[ar_ X,xP,b_ rfl,o]at a;repeat' first|refine I.vq rfl rfl (λb=>?_) λb=>?_<;>(try simp only[bT]at b)<;>(first|exact dV b|refine H tG ?_)|refine J6 rfl (by conv=>lhs;cbv) ?_|refine sZ rfl (by first|rfl) ?_|refine cg tG (λb=>?_) λb=>?_|refine lg tG λm h=>?_|refine xG tG ?_
  all_goals first|omega|rw[decide_eq_true X]at a;exact a|rw[decide_eq_false X]at a;exact a
theorem Vc(p:Pg)(q:Fb p):ad U 43 [pg O p] (.aM [iv (rH p).1,iv (rH p).2]):=by
 have r:Pure (.ip (oP O p)):=.ip (Ea p);have A:Pure (.fn (.func 89) [] [.ip (oP O p)]):=.fn (λa j=>by cases j) λa j=>by cases ae_.1 j;exact r
 have s:=Vb (fs:=[]) (cs:=[.ip (oP O p)]) ⟨r,trivial⟩ (acO (U:=U) (O:=O) p q);let⟨e,f⟩:=p;let⟨t,C,G,u⟩:=q;dsimp only at t C G u;let⟨R,c⟩:=au (rH ⟨e,f⟩);rw[<-c];rw[rH]at c;let⟨E,J⟩:=au (wS ⟨e,f⟩);rw[<-J]at c s;dsimp only at c;refine st avg C3 (.aM λa j=>by simp only[al_,aB_,or_false]at j;rcases j with rfl|rfl<;>exact .v) ?_;repeat' first|refine ig C3 (D.tU rfl s ⟨A,trivial⟩ .v ⟨aL.fns trivial ⟨aL.box (cs:=oP O ⟨e,f⟩) (cs':=oP O ⟨e,f⟩) rfl ⟨.refl _,.refl _,trivial⟩,trivial⟩,trivial⟩) λd o=>?_|refine cg C3 (λl=>?_) λl=>?_|refine lg C3 λm S=>?_|refine fq ?_
 rw[if_neg X]at c;rw[c,o];exact aL.of_eq rfl;rw[if_pos X]at c;refine bL 1 1 [] (λi=>[(1,.pt 0 2 0 0),(14,.v (.int .i64 m)),(15,.v (.int .i64 i))]) [] (λ_=>[(0,.arr 2 [oP O ⟨e,f⟩] 0 true)]) f.length (λk=>R=vI e (f.drop k) k) (by simpa using c) λi k w T h=>?_;clear c;refine H C3 ?_;by_cases L:k<f.length
 ·let⟨x,y,M⟩:=aC L;rw[M,vI]at h;have z:=Uh (U:=U) (O:=O) e x t (u x (as_ y));let⟨F,N⟩:=au (oW e x);rw[<-N]at h z;have V:=fQ (O:=O) x;let⟨n,W,re,g,b,v⟩:=x;repeat' first|refine og C3 (D.bw w y) ?_|refine ig C3 (pl z) λd2 P=>?_|refine cg C3 (λl=>?_) λl=>?_|refine ag C3 λ_ _=>?_|refine xG C3 ?_|refine rG C3 ?_|refine fq ?_
  all_goals first|omega|rw[if_pos (show F=0 by omega)]at h;exact cw _ [] (k+1) h|rw[if_neg (show¬F=0 by omega)]at h;subst P;rw[h,<-w];exact aL.of_eq rfl
 ·rw[ar_ X,vI]at h;repeat' first|refine cg C3 (λl=>?_) λl=>?_|refine xG C3 ?_|refine fq ?_
  all_goals first|omega|rw[h];exact aL.of_eq rfl
def aqm:=aD func133 call133
def akO:=[3,0,1]
def avh:=aD func68 call68
def g68:=[3,2,4,0,1]
def akP:=aD func66 call66
def tH:=[3,0,43,5,4,1,18,39,42,44,41,7,9,58]
def xQ(O:Hd)(p:Pg)(s:dp):List AV:=[ir O p.ds,QE O p.rs,dI O s.goals,mH O s.store,a_ O s.binds,mX O s.bE,dI O s.known,iv s.next,iv s.fresh,.v (.bool s.failed)]
def Eb(s:dp)(x:Bd):Bool:=decide (x.v<s.fresh) &&!(varsOf [x.t]).any λv=>decide (s.fresh<=v)
def BD(p:Pg)(s:dp)(x:Fi):Bool:=match p.rs[x.ud.toNat]? with|none=>false|some r=>r.rem.isEmpty&&decide (x.ids.length=r.aP.length)&&x.ids.all λid=>(jT s.store id).2
theorem Kb(p:Pg)(s:dp):∀a∈xQ O p s,Pure a:=by intro a b;simp only[xQ,al_,aB_,or_false]at b;rcases b with rfl|rfl|rfl|rfl|rfl|rfl|rfl|rfl|rfl|rfl;exact eM _;exact oH _;exact a6 _;exact dY _;exact bH _;exact fm _;exact a6 _;exact .v;exact .v;exact .v
theorem ahS(p:Pg)(s:dp)(v:Int):ad U 133 [iv v,.ip [.ip (xQ O p s)]] (.v (.bool (decide (s.fresh<=v)))):=by
 let⟨b,c⟩:=p;let⟨goals,store,d,e,f,next,fresh,failed⟩:=s;dsimp only;refine st aqm akO .v ?_;repeat' first|refine cg akO (λa=>?_) λa=>?_|refine fq ?_
 all_goals first|exact aO (decide_eq_true X).symm|exact aO (decide_eq_false X).symm
theorem akQ(p:Pg)(s:dp)(x:Bd)(d:x.ok):ad U 68 [.ip (xQ O p s),bd O x] (.v (.bool (Eb s x))):=by
 have C:Pure (.ip (xQ O p s)):=.ip (Kb p s);have h:Pure (.fn (.func 133) [] [.ip [.ip (xQ O p s)]]):=.fn (λa i=>Z) λa i=>by cases ae_.1 i;exact .ip λb e=>Z
 have c:(a7 [x.t]).length<=1099511627776:=by rw[a7,a7,aI_];exact aD_ (p_ _) d.2
 have j:=YW (U:=U) (O:=O) x.t d.1 (by first|exact aD_ (p_ _) d.2);have k:(varsOf [x.t]).length<=1099511627776:=aD_ (lQ _ _) c;have f:=ajJ (U:=U) (O:=O) (λv=>decide (s.fresh<=v)) (varsOf [x.t]) _ [] _ k h λv _=>⟨_,_,rfl,⟨.v,.ip λb e=>Z,trivial⟩,ahS p s v⟩;unfold Eb;let⟨B,l⟩:=au ((varsOf [x.t]).any λv=>decide (s.fresh<=v));rw[<-l]at f⊢;let⟨E,m⟩:=au (varsOf [x.t]);rw[<-m]at j f;clear l m c k;let⟨n,o⟩:=p;let⟨goals,store,q,r,t,next,fresh,failed⟩:=s;let⟨g,u,w,y,z⟩:=x;dsimp only;refine st avh g68 .v ?_;repeat' first|refine og g68 (D.bU rfl j ⟨bM (O:=O) ⟨u,w,y,z⟩,trivial⟩) ?_|refine bg g68 (D.tU rfl f ⟨a8 _,h,trivial⟩ .v ⟨.refl _,aL.fns trivial ⟨aL.box (cs:=[.ip (xQ O ⟨n,o⟩ ⟨goals,store,q,r,t,next,fresh,failed⟩)]) (cs':=[.ip (xQ O ⟨n,o⟩ ⟨goals,store,q,r,t,next,fresh,failed⟩)]) rfl ⟨.refl _,trivial⟩,trivial⟩,trivial⟩) (λ_=>?_) λ_=>?_|refine cg g68 (λe=>?_) λe=>?_|refine fq ?_
 all_goals first|refine aO ?_;rw[decide_eq_false (show¬g<fresh by omega)];rfl|refine aO ?_;rw[decide_eq_true (show g<fresh by omega),show B=true by grind];rfl|refine aO ?_;rw[decide_eq_true (show g<fresh by omega),show B=false by grind];rfl
theorem akR(p:Pg)(s:dp)(x:Fi)(h0:0<=x.ud)(hi:x.ids.length<=1099511627776)(A:p.rs.length<=1099511627776)(g:∀r∈p.rs,r.aP.length<=1099511627776/\r.rem.length<=1099511627776)(hs:s.store.length<=1099511627776):ad U 66 [.ip (xQ O p s),fi O x] (.v (.bool (BD p s x))):=by have Q:Pure (.ip (xQ O p s)):=.ip (Kb p s);let⟨R,a⟩:=au (BD p s x);rw[<-a];unfold BD at a;let⟨B,j⟩:=p;let⟨goals,store,C,E,F,next,fresh,failed⟩:=s;let⟨u,b⟩:=x;dsimp only at a h0 hi A g hs;cases e:j[u.toNat]? with
 |none =>
  rw[e]at a;dsimp only at a;have G:=cn_.1 e;refine st akP tH .v ?_;repeat' first|refine cg tH (λc=>?_) λc=>?_|refine lg tH λm J=>?_|refine fq ?_
  all_goals first|omega|rw[a];exact aO rfl
 |some r =>
  rw[e]at a;have v:=(aC_.1 e).1;have n:=UO (U:=U) (O:=O) r (g r (as_ e)).2;have K:=(g r (as_ e)).1;have L:=fQ (O:=O) r;let⟨rn,f,o,rg,S,rv⟩:=r;dsimp only at a n K;let⟨w,t⟩:=au o.isEmpty;rw[<-t]at a n;refine st akP tH .v ?_;repeat' first|refine bg tH (D.bU rfl n ⟨L,trivial⟩) (λ_=>?_) λ_=>?_|refine I.dF rfl (λT=>D.ind rfl rfl (du (l:=j) (k:=u.toNat) X e) (cJ λ_=>rfl)) ?_;refine H tH ?_|refine cg tH (λc=>?_) λc=>?_|refine lg tH λm J=>?_|refine fq ?_
  all_goals first|omega|rw[a,show w=false by grind];exact aO rfl|rw[a,decide_eq_false (show¬b.length=f.length by omega)];refine aO ?_;simp;done|skip
  rw[show w=true by grind,decide_eq_true (show b.length=f.length by omega),az_,az_]at a;refine bL 3 3 [] (λi=>[(0,.ip (xQ O ⟨B,j⟩ ⟨goals,store,C,E,F,next,fresh,failed⟩)),(41,aQ O aH false b),(42,.v (.int .i64 m)),(43,.v (.int .i64 i))]) [] (λ_=>[]) b.length (λk=>R=(b.drop k).all λid=>(jT store id).2) Z λi k hi g d=>?_;clear a;refine H tH ?_;by_cases v:k<b.length
  ·let⟨y,z,M⟩:=aC v;rw[M,aL_]at d;have h:=ajX (U:=U) (O:=O) store y hs;let⟨⟨⟨V,W⟩,N⟩,P⟩:∃q,q=jT store y:=⟨_,rfl⟩;rw[<-P]at d h;dsimp only at d h;cases N
   ·skip;repeat' first|refine og tH (D.bw hi z) ?_|refine og tH (D.bU rfl h ⟨dY _,.v,trivial⟩) ?_|refine cg tH (λc=>?_) λc=>?_|refine xG tH ?_|refine rG tH ?_|refine fq ?_
    all_goals first|omega|rw[d];exact aO rfl
   ·skip;repeat' first|refine og tH (D.bw hi z) ?_|refine og tH (D.bU rfl h ⟨dY _,.v,trivial⟩) ?_|refine cg tH (λc=>?_) λc=>?_|refine ag tH λ_ _=>?_|refine xG tH ?_|refine fq ?_
    all_goals first|omega|rw[az_]at d;exact cw _ [] (k+1) d
  ·rw[ar_ X,bn_]at d;repeat' first|refine cg tH (λc=>?_) λc=>?_|refine xG tH ?_|refine fq ?_
   all_goals first|omega|rw[d];exact aO rfl
end
end Go.Proofs.YtbdcmpknicjopaaGreat
