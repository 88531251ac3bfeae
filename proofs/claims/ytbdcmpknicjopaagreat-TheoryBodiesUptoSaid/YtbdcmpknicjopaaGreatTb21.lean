import Derived.Laws.CopyRow
import Derived.Test.YtbdcmpknicjopaaGreatTb20
namespace Go.Proofs.YtbdcmpknicjopaaGreat
set_option linter.all false
set_option maxRecDepth 100000
open Go.RowKit Proofs.Tryz
variable{G2:List (List AV)}{K:List gE}{MB n sz:Nat}{O:Hd}{P:Program}{Q:Exit->AA->ah->Prop}{S S':ah}{U:AA}{Y:World}{b:QO}{d:Option Nat}{ex:Bool}{g:Option (Nat×Bool)}{l:List QI}{o:Oper}{r:AV}{s:List Dc}
variable{rows:List (List AV)}
section
attribute [local irreducible] ao aF D H
def grT(O:Hd)(Mx:List Tm):Ob:=.arr 4 (O.h (List.map mn) Mx) 0 false
def gk(l:List At):List Tm:=l.flatMap (·.a)
def nQ(l:List Gl):List Tm:=l.flatMap (·.a)
theorem JU(x:Tm):(mn x).all db=true:=by rw[qY (O:=.plain)];rfl
def ahl{B fz:Nat}{s:List Tm}:kH B (.arr sz (O.h (List.map mn) s) fz ex):=kG λx _ a b=>Ad x a b
theorem WT(r:Rl)(h:r.aQ.length+r.rem.length<=549755813888)(z:(gk (r.aQ++r.rem)).length<=549755813888)(d:dS (gk (r.aQ++r.rem)))(o:(aZ (gk (r.aQ++r.rem))).length<=1099511627776):ab Y 247 [rl O r] (aY O aR false (varsOf (gk (r.aQ++r.rem)))):=by
 have q:=H6 (Y:=Y) (O:=O) r h;have e:=DP (Y:=Y) (O:=O) (gk (r.aQ++r.rem)) X d o;have N:=jr (O:=O) r;have B:(r.aQ++r.rem).length<=549755813888:=I;let⟨A,j⟩:=aq (gk (r.aQ++r.rem));rw[<-j]at e z⊢;clear d o;let⟨L,s⟩:=aq (r.aQ++r.rem);rw[<-s]at j q B;clear s h;let⟨V,u⟩:=aq (varsOf A);rw[<-u]at e⊢;clear u;let⟨n,P,Q,g,b,v⟩:=r;refine st aoU wB (bJ _) ?_;repeat' first|apply a8 wB q
 refine cr (τ:=List Tm×Nat) 1 2 [] (λp=>[(3,.gr 1 4 p.2.2),(4,fI O L),(5,.v (.int .i64 p.1))]) [] (λp=>[(1,grT O p.2.1)]) L.length (λk p=>A=p.2.1++gk (L.drop k)/\p.2.2=p.2.1.length) ([],0) ⟨I,rfl⟩ ?_;rintro i k⟨C,len⟩w d⟨a,l⟩;simp only at w a l;clear j;refine Z wB ?_;by_cases E:k<L.length
 ·let⟨x,F,G⟩:=aA E;rw[G,gk,aV_,<-gk]at a;have J:C.length+x.a.length<=549755813888:=I;let⟨S,T⟩:=x;dsimp only at a J;repeat' first|refine og wB (D.bh w F) ?_|refine H.yd (f:=mn) rfl rfl rfl l (λ_=>rfl) rfl zk JU X λK M W mS=>?_;refine Z wB ?_|refine cg wB (λc=>?_) λc=>?_|refine lg wB λm y=>?_|refine ag wB λ_ _=>?_|refine xG wB ?_
  all_goals first|omega|refine H.bO (_,K,M) [(1,2)] ?_ ?_ cz;grind;simp only;omega
 rw[al_ X,gk,bt_,aG_]at a;subst a;refine H.int rfl (D.len rfl) λm y=>?_;rw[az]at y;refine Z wB ?_;refine H.bif rfl (D.bit rfl) (λc=>?_) λc=>?_<;>(try simp only[decide_eq_true_eq,decide_eq_false_iff_not]at c);grind;refine Z wB ?_;refine xG wB ?_;refine H.Cz (Cv.freeze (t:=21) rfl rfl (.inl rfl) (l.trans (az (O:=O) (f:=mn)).symm) (aE_ _)) ?_;apply a8 wB e;refine fq ?_;exact aH.of_eq rfl
def apu:=aD func244 call244
def uc:List Nat:=[8,0,1,6,12,21,2,25,7]
def apv:=aD func245 call245
def wG:List Nat:=[5,1,6,4,10,18,0,33]
def apw:=aD func246 call246
def akh:List Nat:=[0,2]
def apx:=aD func248 call248
def Ae:List Nat:=[5,0,4,9,1,17]
theorem WU(r:Rl)(h:r.aQ.length+r.rem.length<=549755813888)(F:r.guard.length+r.body.length<=549755813888)(s:(gk (r.aQ++r.rem)++nQ (r.guard++r.body)).length<=549755813888)(l:dS (gk (r.aQ++r.rem)++nQ (r.guard++r.body)))(G:(aZ (gk (r.aQ++r.rem)++nQ (r.guard++r.body))).length<=1099511627776):ab Y 181 [rl O r] (aY O aR false (varsOf (gk (r.aQ++r.rem)++nQ (r.guard++r.body)))):=by
 have J:=H6 (Y:=Y) (O:=O) r h;have K:=Mn (Y:=Y) (O:=O) r F;have a:=DP (Y:=Y) (O:=O) (gk (r.aQ++r.rem)++nQ (r.guard++r.body)) X l G;have v7:=jr (O:=O) r;have qC:(r.aQ++r.rem).length<=549755813888:=I;have Gw:(r.guard++r.body).length<=549755813888:=I;clear l G h F;let⟨L,N⟩:=aq (r.aQ++r.rem);let⟨M,P⟩:=aq (r.guard++r.body);rw[<-N]at J qC a s⊢;rw[<-P]at K Gw a s⊢;clear N P;let⟨A,Q⟩:=aq (gk L++nQ M);rw[<-Q]at a s⊢;let⟨V,R⟩:=aq (varsOf A);rw[<-R]at a⊢;clear R;let⟨n,ke,re,g,b,v⟩:=r;refine st aoV mU (bJ _) ?_;repeat' first|apply a8 mU J
 refine cr (τ:=List Tm×Nat) 1 2 [] (λp=>[(1,.pt 0 6 0 0),(3,.gr 1 4 p.2.2),(4,fI O L),(5,.v (.int .i64 p.1))]) [] (λp=>[(0,.arr 6 [lY O ⟨n,ke,re,g,b,v⟩] 0 true),(1,grT O p.2.1)]) L.length (λk p=>A=p.2.1++(gk (L.drop k)++nQ M)/\p.2.2=p.2.1.length) ([],0) ⟨I,rfl⟩ ?_;rintro i k⟨S,len⟩u l⟨c,o⟩;simp only at u c o;clear Q;refine Z mU ?_;by_cases au:k<L.length
 ·let⟨x,w,y⟩:=aA au;rw[y,gk,aV_,<-gk]at c;have z:S.length+x.a.length<=549755813888:=I;let⟨xn,xa⟩:=x;dsimp only at c z;repeat' first|refine og mU (D.bh u w) ?_|refine H.yd (f:=mn) rfl rfl rfl o (λ_=>rfl) rfl zk JU X λB C K5 mS=>?_;refine Z mU ?_|refine cg mU (λd=>?_) λd=>?_|refine lg mU λm T=>?_|refine ag mU λ_ _=>?_|refine xG mU ?_
  all_goals first|omega|refine H.bO (_,B,C) [(1,2)] ?_ ?_ cz;grind;simp only;omega
 rw[al_ X,gk,bt_,aL_]at c;repeat' first|apply a8 mU K|refine cg mU (λd=>?_) λd=>?_|refine lg mU λm T=>?_|refine xG mU ?_
 all_goals first|omega|skip
 refine H.ic (σ:=Int×List Tm×Nat) 2 3 [(2,1)] (λp=>[(3,.gr 2 4 p.2.2),(6,dJ O M),(7,.v (.int .i64 p.1))]) [] (λp=>[(2,grT O p.2.1)]) (λp=>∃k:Nat,p.1=k/\k<=M.length/\A=p.2.1++nQ (M.drop k)/\p.2.2=p.2.1.length) (λp=>M.length-p.1.toNat) (0,S,len) ⟨0,rfl,aB,I,o⟩ rfl cz ?_;clear c o u l;rintro⟨j,dy,eO⟩ ⟨q,W,hq,e,E⟩;simp only at W e E;refine Z mU ?_;by_cases ko:q<M.length
 ·let⟨x,w,y⟩:=aA ko;rw[y,nQ,aV_,<-nQ]at e;have z:dy.length+x.a.length<=549755813888:=I;let⟨xo,xn,xa⟩:=x;dsimp only at e z;repeat' first|refine og mU (D.bh W w) ?_|refine H.yd (f:=mn) rfl rfl rfl E (λ_=>rfl) rfl zk JU X λB C K5 mS=>?_;refine Z mU ?_|refine cg mU (λd=>?_) λd=>?_|refine lg mU λm T=>?_|refine ag mU λ_ _=>?_|refine xG mU ?_
  all_goals first|omega|refine H.bO (_,B,C) [(2,3)] ?_ ?_ cz;grind;simp only;omega
 rw[al_ X,nQ,bt_,aG_]at e;subst e;refine H.int rfl (D.len rfl) λm2 jb=>?_;rw[az]at jb;refine Z mU ?_;refine H.bif rfl (D.bit rfl) (λb9=>?_) λb9=>?_<;>(try simp only[decide_eq_true_eq,decide_eq_false_iff_not]at b9);grind;refine Z mU ?_;refine xG mU ?_;refine H.Cz (Cv.freeze (t:=38) rfl rfl (.inl rfl) (E.trans (az (O:=O) (f:=mn)).symm) (aE_ _)) ?_;apply a8 mU a;refine fq ?_;exact aH.of_eq rfl
theorem ZA(o:Int):ab Y 246 [iv o] (.v (.bool (nC o))):=by
 refine st apw akh .v ?_;repeat' first|refine cg akh (λa=>?_) λa=>?_|refine fq ?_
 all_goals subst_vars;refine aL ?_;rw[nC,bG_];simp;omega
theorem aug(l:List Int)(v:Int)(j:l.length<=1099511627776):ab Y 248 [aY O aR false l,iv v] (.v (.bool (l.contains v))):=by
 let⟨R,b⟩:=aq (l.contains v);rw[<-b];rw[<-FU]at b;refine st apx Ae .v ?_;refine bE 0 0 [] (λi=>[(0,aY O aR false l),(1,.v (.int .i64 v)),(5,.v (.int .i64 i))]) [] (λ_=>[]) l.length (λk=>R=(l.drop k).any λx=>v==x) I λi k d n a=>?_;clear b;refine Z Ae ?_;by_cases e:k<l.length
 ·let⟨x,f,g⟩:=aA e;rw[g,bH_]at a;repeat' first|refine og Ae (D.bh d f) ?_|refine cg Ae (λc=>?_) λc=>?_|refine lg Ae λm h=>?_|refine ag Ae λ_ _=>?_|refine xG Ae ?_|refine rG Ae ?_|refine fq ?_
  all_goals first|omega|rw[a,show(v==x)=true from beq_iff_eq.2 X];exact aL rfl|rw[show(v==x)=false from beq_eq_false_iff_ne.2 X,Bool.false_or]at a;exact cw _ [] (k+1) a
 ·skip;repeat' first|refine cg Ae (λc=>?_) λc=>?_|refine lg Ae λm h=>?_|refine xG Ae ?_|refine fq ?_
  all_goals first|omega|rw[a,al_ X];exact aL rfl
def auh:=aD func92 call92
def g92:List Nat:=[4,0,1,3,2]
def aui:=aD func89 call89
def tu:List Nat:=[3,0,13,1,12,14,11]
def auj:=aD func43 call43
def CV:List Nat:=[1,15,4,5,6,2,3,0,10,14,16,27]
def vx(d a:Dc):Bool:=d.n.toList==a.n.toList&&d.ar==a.ar
def xJ(s:List Dc):List Dc->Int|[]=>0|d::l=>bw (cT (nZ d.n) 7) (bw (cT (decide (0<=d.ar)&&decide (d.ar<=6)) 9) (bw (cT (!s.any (vx d)) 8) (xJ (s++[d]) l)))
def wH(p:Pg):Int:=bw (cT (decide (p.ds.length<=30)) 6) (bw (xJ [] p.ds) (cT (decide (p.rs.length<=40)) 6))
def vz(ds:List Dc):List Rl->Nat->Int×Int|[],_=>(0,0)|r::l,k=>if oT ds r=0 then vz ds l (k+1) else(k,oT ds r)
def tv(p:Pg):Int×Int:=if wH p=0 then vz p.ds p.rs 0 else(-1,wH p)
structure Bj(p:Pg):Prop where ds:p.ds.length<=1099511627776rs:p.rs.length<=1099511627776dn:∀d∈p.ds,d.n.size<=1099511627776rr:∀r∈p.rs,CT r
def Q2(d:Dc):Value:=.agg #[.string d.n,.int .i64 d.ar]
def vA(l:List Dc):List (Value×AV):=l.map λd=>(Q2 d,.v (.bool true))
def I4(d:Dc)(k:Value):Bool:=match k with
 |.agg a=>match a.toList with|[.string n,.int _ i]=>d.n.toList==n.toList&&d.ar==i|_=>false
 |_=>false
theorem acA(d:Dc)(s:List Dc):rD (I4 d) (vA s)=none/\s.any (vx d)=false\/mR (I4 d) (vA s)=some (.v (.bool true))/\s.any (vx d)=true:=by induction s with|nil=>exact .inl ⟨rfl,rfl⟩|cons x s c =>have e:rD (I4 d) (vA (x::s))=if vx d x=true then some 0 else(rD (I4 d) (vA s)).map (·+1):=rfl;rw[mR,e,bH_];by_cases h:vx d x=true;rw[if_pos h,h];exact .inr ⟨rfl,rfl⟩;rw[if_neg h,co_.2 h];rcases c with⟨a,f⟩|⟨a,f⟩;grind;right;rw[mR]at a;refine⟨?_,I⟩;cases b:rD (I4 d) (vA s) with|none=>rw[b]at a;cases a|some j=>rw[b]at a;exact a
theorem WV{a:Result Bool}{e:Bool}{w:World}(h:(a.andThen λb w'=>Result.ok (Value.bool b) w')=.ok (.bool e) w):a=.ok e w:=by cases a with|ok b w' =>simp only[Result.andThen,Result.ok.injEq,Value.bool.injEq]at h;rw[h.1,h.2]|_=>cases h
theorem U2(d:Dc)(s:List Dc):Mj prog 60 (Q2 d) (vA s) (I4 d):=by
 let⟨n,i⟩:=d;have a:prog.underlying 60=some (.struct (prog.fieldsOf 60)):=by kernel_rfl
 have c:=underlying3;have e:=underlying9;have f:=isAgg3;have g:=isAgg9;refine⟨λb w=>?_,⟨_,a⟩,λp j w=>?_⟩;have key:∀q:Nat,(Instr.checkKey b (q+1+1) 60 (Q2 ⟨n,i⟩)).run prog w=.ok () w:=by
  intro q;have k:∀w,(Instr.checkKey b (q+1) 9 (.string n)).run prog w=.ok () w:=λw=>by rw[Instr.checkKey];simp only[Sem.run_bind,run_underlying e,Result.andThen_ok,Sem.run_pure]
  have l:∀w,(Instr.checkKey b (q+1) 3 (.int .i64 i)).run prog w=.ok () w:=λw=>by rw[Instr.checkKey];simp only[Sem.run_bind,run_underlying c,Result.andThen_ok,Sem.run_pure]
  rw[Instr.checkKey];simp only[Sem.run_bind,run_underlying a,Result.andThen_ok,Q2];simp only[Program.fieldsOf,underlying60];simp[part,f,g,k,l]
 exact key 9998;obtain⟨m,_,rfl⟩:=aB_.1 j;let⟨o,r⟩:=m;have h:=(UB n o i r).2.2 w;rw[run_eql_struct]at h;exact WV h
section
variable{rd:Bool}
theorem U3{B:Nat}:kH B (.mp (O.h vA s)):=by rw[O.eq];intro e a;obtain⟨p,_,rfl⟩:=aB_.1 a;exact .v
theorem H.aki(O:Hd)(a:bD U.tm g=some true)(b:∀s:List Dc,s=[]->H P Y rd n Q (.bk false l K) (bW d U (.mp S.nx)) (S.new (.mp (O.h vA s)))):H P Y rd n Q (.bk false (⟨d,g,.kX none⟩::l) K) U S:=by have h:=b [] rfl;rw[O.eq]at h;exact H.op (i:=⟨d,g,.kX none⟩) a D.kX h
theorem H.apy{z:AV}{x i:QO}{k:Nat}{v:Dc}(c:bD U.tm g=some true)(e:x.ev U.tm=.mp k)(f:S.get k=some (.mp (O.h vA s)))(hi:toV (i.ev U.tm)=some (Q2 v))(o:s.any (vx v)=true->H prog Y rd n Q (.bk false l K) (bW d U (.v (.bool true))) S)(j:rD (I4 v) (vA s)=none->s.any (vx v)=false->H prog Y rd n Q (.bk false l K) (bW d U z) S):H prog Y rd n Q (.bk false (⟨d,g,.mR 60 z false x i⟩::l) K) U S:=by
 have h:=D.mR (P:=prog) (Y:=Y) (z:=z) (cm:=false) e f hi (by rw[O.eq];exact U2 v s);rw[O.eq]at h;refine H.op (i:=⟨d,g,.mR 60 z false x i⟩) c h ?_;rcases acA v s with⟨a,b⟩|⟨a,b⟩;have m:mR (I4 v) (vA s)=none:=by rw[mR,a]
 rw[m];exact j a b;grind
theorem H.apz{x i:QO}{k:Nat}{v:Dc}(f:bD U.tm g=some true)(j:x.ev U.tm=.mp k)(m:S.get k=some (.mp (O.h vA s)))(hi:toV (i.ev U.tm)=some (Q2 v))(o:rD (I4 v) (vA s)=none)(p:b.ev U.tm=.v (.bool true))(q:∀a,a=s++[v]->H prog Y rd n Q (.bk false l K) (bW d U (.v undef)) (S.set k (some (.mp (O.h vA a))))):H prog Y rd n Q (.bk false (⟨d,g,.AT 60 x i b⟩::l) K) U S:=by
 have h:=D.AT (P:=prog) (Y:=Y) (c:=I4 v) j m hi (by rw[O.eq];exact U2 v s) (by rw[O.eq];exact o) p;have e:O.h vA s++[(Q2 v,.v (.bool true))]=O.h vA (s++[v]):=by rw[O.eq,O.eq,vA,vA,aZ_];rfl
 rw[e]at h;exact H.op (i:=⟨d,g,.AT 60 x i b⟩) f h (q _ rfl)
end
theorem U4{g:FuncId}{fs cs:List AV}{E:Int}(a:iU (fs++cs))(h:DZ Y g (fs++cs) E):ab Y 88 [.fn (.func g) fs cs] (iv E):=by have b:=acs a h;by_cases e:E=0;grind;grind
theorem T9(ds:List Dc)(r:Rl)(k:ds.length<=1099511627776)(l:CT r):ab Y 92 [h_ O ds,rl O r] (iv (oT ds r)):=by
 have m:Pure (.ip (lY O r)):=.ip (D5 r);have c:Pure (.ip [h_ O ds]):=.ip λa e=>by grind[eN]
 have f:=U4 (fs:=[]) (cs:=[.ip (lY O r),.ip [h_ O ds]]) ⟨m,c,trivial⟩ (aj_ (Y:=Y) (O:=O) ds r k l);have o:Pure (.fn (.func 157) [] [.ip (lY O r),.ip [h_ O ds]]):=.fn (λa e=>I) λa e=>I;let⟨E,p⟩:=aq (oT ds r);rw[<-p]at f⊢;let⟨n,i,j,g,b,v⟩:=r;refine st auh g92 .v ?_;repeat' first|refine og g92 (D.tI rfl f ⟨o,trivial⟩ .v ⟨aH.fns trivial ⟨aH.box (cs:=lY O ⟨n,i,j,g,b,v⟩) (cs':=lY O ⟨n,i,j,g,b,v⟩) rfl ⟨.refl _,.refl _,.refl _,.refl _,.refl _,.refl _,trivial⟩,aH.box (cs:=[h_ O ds]) (cs':=[h_ O ds]) rfl ⟨.refl _,trivial⟩,trivial⟩,trivial⟩) ?_|refine fq ?_
 exact dx rfl
theorem acB(p:Pg)(w:Bj p):DZ Y 89 [.ip (ju O p)] (wH p):=by
 have L:Pure (.ip (ju O p)):=.ip (rM p);let⟨d,j⟩:=p;let⟨y,z,n,_⟩:=w;dsimp only at y z n;let⟨E,a⟩:=aq (wH ⟨d,j⟩);rw[<-a];rw[wH]at a;dsimp only at a;let⟨T,o⟩:=aq (cT (decide (j.length<=40)) 6);rw[<-o]at a;refine OY aui.2 (by simp[ntmps89]) ?_;refine Z tu ?_;repeat' first|refine H.vk rfl rfl (λb=>?_) λb=>?_<;>(try simp only[bY]at b)<;>(first|exact dF b|refine Z tu ?_)|refine sY rfl (by first|rfl) ?_|refine cg tu (λb=>?_) λb=>?_|refine lg tu λm h=>?_
 all_goals first|rw[decide_eq_false X]at a;exact a|skip
 rw[decide_eq_true X,show cT true 6=0 from rfl,bZ rfl]at a;refine H.aki O rfl λA B=>?_;refine Z tu ?_;refine H.int rfl (D.len rfl) λm h=>?_;rw[az]at h;refine Z tu ?_;refine cr (τ:=List Dc) 1 1 [] (λq=>[(0,.ip (ju O ⟨d,j⟩)),(1,.mp 0),(11,h_ O d),(12,.v (.int .i64 m)),(13,.v (.int .i64 q.1))]) [] (λq=>[(0,.mp (O.h vA q.2))]) d.length (λk q=>E=bw (xJ q.2 (d.drop k)) T) A (by rw[B];simpa using a) (hC:=by exact⟨sq,rfl,⟨.inl ⟨_,rfl,.same U3⟩,trivial⟩,rfl,rfl,rfl⟩) ?_;rintro i k s r N a;simp only at r a;refine Z tu ?_;by_cases F:k<d.length
 ·let⟨x,t,G⟩:=aA F;rw[G,xJ,du,du,du]at a;have e:=n x (am_ t);have l:=Cp (Y:=Y) x.n e;let⟨f,c⟩:=x;dsimp only at a e l;let⟨g,u⟩:=aq (nZ f);rw[<-u]at a l;clear u;repeat' first|refine og tu (D.bh r t) ?_|refine bg tu (pl l) (λ_=>?_) λ_=>?_|refine H.apy (v:=⟨f,c⟩) rfl rfl rfl rfl (λJ=>?_) λP J=>?_<;>refine Z tu ?_|refine H.apz (v:=⟨f,c⟩) rfl rfl rfl rfl (by assumption) rfl λK Q=>?_;refine Z tu ?_|refine H.vk rfl rfl (λb=>?_) λb=>?_<;>(try simp only[bY]at b)<;>(first|exact dF b|refine Z tu ?_)|refine H.DJ ?_;refine Z tu ?_|refine JN rfl (by conv=>lhs;cbv) ?_|refine sY rfl (by first|rfl) ?_|refine cg tu (λb=>?_) λb=>?_|refine lg tu λm h=>?_|refine ag tu λ_ _=>?_|refine xG tu ?_
  all_goals first|omega|rw[show g=true by assumption,show cT true 7=0 from rfl,bZ rfl,decide_eq_true (show 0<=c by omega),decide_eq_true (show c<=6 by omega),show cT (true&&true) 9=0 from rfl,bZ rfl,show s.any (vx ⟨f,c⟩)=false by assumption,show cT (!false) 8=0 from rfl,bZ rfl]at a;exact bP (_,K) [] (k+1) I (hC:=by exact⟨sq,rfl,⟨.inl ⟨_,rfl,.same U3⟩,trivial⟩,rfl,rfl,rfl⟩)|rw[show g=true by assumption,show cT true 7=0 from rfl,bZ rfl,decide_eq_true (show 0<=c by omega),decide_eq_true (show c<=6 by omega),show cT (true&&true) 9=0 from rfl,bZ rfl,show s.any (vx ⟨f,c⟩)=true by assumption]at a;exact a|rw[show g=true by assumption,show cT true 7=0 from rfl,bZ rfl,decide_eq_false (show¬0<=c by omega)]at a;exact a|rw[show g=true by assumption,show cT true 7=0 from rfl,bZ rfl,decide_eq_true (show 0<=c by omega),decide_eq_false (show¬c<=6 by omega)]at a;exact a|rw[show g=false by assumption]at a;exact a
 ·rw[al_ X,xJ,bZ rfl,o]at a;repeat' first|refine H.vk rfl rfl (λb=>?_) λb=>?_<;>(try simp only[bY]at b)<;>(first|exact dF b|refine Z tu ?_)|refine JN rfl (by conv=>lhs;cbv) ?_|refine sY rfl (by first|rfl) ?_|refine cg tu (λb=>?_) λb=>?_|refine lg tu λm h=>?_|refine xG tu ?_
  all_goals first|omega|rw[decide_eq_true X]at a;exact a|rw[decide_eq_false X]at a;exact a
theorem ahm(p:Pg)(q:Bj p):ab Y 43 [pg O p] (.aJ [iv (tv p).1,iv (tv p).2]):=by
 have r:Pure (.ip (ju O p)):=.ip (rM p);have A:Pure (.fn (.func 89) [] [.ip (ju O p)]):=.fn (λa j=>by cases j) λa j=>by cases ak_.1 j;exact r
 have s:=U4 (fs:=[]) (cs:=[.ip (ju O p)]) ⟨r,trivial⟩ (acB (Y:=Y) (O:=O) p q);let⟨e,f⟩:=p;let⟨t,C,G,u⟩:=q;dsimp only at t C G u;let⟨R,c⟩:=aq (tv ⟨e,f⟩);rw[<-c];rw[tv]at c;let⟨E,J⟩:=aq (wH ⟨e,f⟩);rw[<-J]at c s;dsimp only at c;refine st auj CV (.aJ λa j=>by simp only[ae_,aw_,or_false]at j;rcases j with rfl|rfl<;>exact .v) ?_;repeat' first|refine ig CV (D.tI rfl s ⟨A,trivial⟩ .v ⟨aH.fns trivial ⟨aH.box (cs:=ju O ⟨e,f⟩) (cs':=ju O ⟨e,f⟩) rfl ⟨.refl _,.refl _,trivial⟩,trivial⟩,trivial⟩) λd o=>?_|refine cg CV (λl=>?_) λl=>?_|refine lg CV λm S=>?_|refine fq ?_
 rw[if_neg X]at c;rw[c,o];exact aH.of_eq rfl;rw[if_pos X]at c;refine bE 1 1 [] (λi=>[(1,.pt 0 2 0 0),(14,.v (.int .i64 m)),(15,.v (.int .i64 i))]) [] (λ_=>[(0,.arr 2 [ju O ⟨e,f⟩] 0 true)]) f.length (λk=>R=vz e (f.drop k) k) (by simpa using c) λi k w T h=>?_;clear c;refine Z CV ?_;by_cases L:k<f.length
 ·let⟨x,y,M⟩:=aA L;rw[M,vz]at h;have z:=T9 (Y:=Y) (O:=O) e x t (u x (am_ y));let⟨F,N⟩:=aq (oT e x);rw[<-N]at h z;have V:=jr (O:=O) x;let⟨n,W,re,g,b,v⟩:=x;repeat' first|refine og CV (D.bh w y) ?_|refine ig CV (pl z) λd2 P=>?_|refine cg CV (λl=>?_) λl=>?_|refine ag CV λ_ _=>?_|refine xG CV ?_|refine rG CV ?_|refine fq ?_
  all_goals first|omega|rw[if_pos (show F=0 by omega)]at h;exact cw _ [] (k+1) h|rw[if_neg (show¬F=0 by omega)]at h;subst P;rw[h,<-w];exact aH.of_eq rfl
 ·rw[al_ X,vz]at h;repeat' first|refine cg CV (λl=>?_) λl=>?_|refine xG CV ?_|refine fq ?_
  all_goals first|omega|rw[h];exact aH.of_eq rfl
def apA:=aD func196 call196
def acC:List Nat:=[0,1,3]
def apC:=aD func126 call126
def akj:List Nat:=[4,0,1,2]
def auk:=aD func71 call71
def g71:List Nat:=[1,2,0]
def aul:=aD func61 call61
def NQ:List Nat:=[3,0,4,1]
def aum:=aD func63 call63
def U5:List Nat:=[3,0,4,1]
def aun:=aD func64 call64
def ZB:List Nat:=[3,4,1,0]
def ckR(O:Hd)(p:Pg)(s:cH):List AV:=[h_ O p.ds,UT O p.rs,dJ O s.goals,lj O s.store,bf O s.binds,kJ O s.a7,dJ O s.known,iv s.next,iv s.fresh,.v (.bool s.failed),.mp 1]
def v_(O:Hd)(p:Pg)(s:cH):Ob:=.arr 11 [ckR O p s] 0 true
def uI(O:Hd)(kv:List (Int×Bool)):Ob:=.mp (O.h (dX fB) kv)
def ptO:Ob:=.arr 1 [[.pt 0 11 0 0]] 0 true
def ij(o:Int):Bool:=decide (1<=o)&&decide (o<=4)
theorem vB{N:Nat}(h:2<=N)(p:Pg)(s:cH):vZ N (v_ O p s):=by refine⟨λrow c a b=>?_,λJ h=>by cases h⟩;cases ak_.1 c;simp only[ckR,ae_,aw_,or_false]at b;rcases b with rfl|rfl|rfl|rfl|rfl|rfl|rfl|rfl|rfl|rfl|rfl;exact(eN _).bu;exact(qd _).bu;exact(a6 _).bu;exact(dH _).bu;exact(bC _).bu;exact(eu _).bu;exact(a6 _).bu;exact .v;exact .v;exact .v;exact .mp X
theorem vC{N:Nat}(s:List (Int×Bool)):vZ N (uI O s):=⟨H4,λJ h=>by cases h⟩
theorem ZC:vZ 3 ptO:=⟨λrow b a c=>by cases ak_.1 b;cases ak_.1 c;exact .pt aC,λJ h=>by cases h⟩
theorem ahn(p:Pg)(s:cH)(a:List Int)(v:Int):aF prog Y 196 [iv v,.pt 2 1 0 0] (aw [(0,v_ O p s),(1,uI O (kg a)),(2,ptO)] 3) (.v (.bool (decide (s.fresh<=v)||a.contains v))) (aw [(0,v_ O p s),(1,uI O (kg a)),(2,ptO)] 3):=by
 have k0:=vB (O:=O) (N:=3) aC p s;have c:=vC (O:=O) (N:=3) (kg a);have d:=ZC;let⟨R,f⟩:=aq (decide (s.fresh<=v)||a.contains v);rw[<-f];let⟨j,k⟩:=p;let⟨goals,store,l,m,n,next,fresh,failed⟩:=s;dsimp only at f;have b:=FV a v;unfold uI v_ at*;let⟨o,h⟩:=aq (kg a);rw[<-h]at b c⊢;refine sc 3 3 apA ?_;refine Z acC ?_;repeat' first|refine H.look rfl rfl rfl rfl (λx e=>?_) λe=>?_<;>refine Z acC ?_|refine cg acC (λi=>?_) λi=>?_|refine fq ?_
 all_goals first|rw[show R=true by grind];exact⟨[],.aK .v,⟨.inl ⟨_,rfl,.same k0.1⟩,.inl ⟨_,rfl,.same c.1⟩,.inl ⟨_,rfl,.same d.1⟩,trivial⟩,rfl⟩|skip
 rw[e]at b;have g:a.contains v=true:=I;rw[if_pos g]at b;cases oJ_ b;rw[show R=true by grind];exact⟨[],.aK .v,⟨.inl ⟨_,rfl,.same k0.1⟩,.inl ⟨_,rfl,.same c.1⟩,.inl ⟨_,rfl,.same d.1⟩,trivial⟩,rfl⟩;rw[e]at b;have g:a.contains v=false:=I;rw[show R=false by grind];exact⟨[],.aK .v,⟨.inl ⟨_,rfl,.same k0.1⟩,.inl ⟨_,rfl,.same c.1⟩,.inl ⟨_,rfl,.same d.1⟩,trivial⟩,rfl⟩
theorem aho(vs:List Int)(fresh:Int)(b:List Bd)(a:List Int)(c:∀v,a.contains v=kh b v):jn vs fresh b=!vs.any λv=>decide (fresh<=v)||a.contains v:=by grind[jn]
theorem Q3(p:Pg)(s:cH)(b:List Int)(h:∀v,b.contains v=kh s.binds v)(vs:List Int)(l:vs.length<=1099511627776):aF prog Y 126 [.pt 0 11 0 0,aY O aR false vs] (aw [(0,v_ O p s),(1,uI O (kg b))] 2) (.v (.bool (jn vs s.fresh s.binds))) (aw [(0,v_ O p s),(1,uI O (kg b))] 2):=by
 have k0:=vB (O:=O) (N:=3) aC p s;have d:=vC (O:=O) (N:=3) (kg b);have i:=ZC;have j:=vB (O:=O) (N:=2) aC p s;have q1:=vC (O:=O) (N:=2) (kg b);have m:eE 3 (.fn (.func 196) [] [.pt 2 1 0 0]):=.fn (λa c=>by cases c) λa c=>by cases ak_.1 c;exact .pt aC
 have e:=atX (Y:=Y) (O:=O) k0 d i (λv=>decide (s.fresh<=v)||b.contains v) vs _ _ _ l m λx _=>⟨_,_,rfl,λa c=>by simp only[ae_,aL_,aG_,aP_,aw_,or_false]at c;rcases c with rfl|rfl;exact .v;exact .pt aC,ahn p s b x⟩;rw[aho vs s.fresh s.binds b h];let⟨B,k⟩:=aq (vs.any λv=>decide (s.fresh<=v)||b.contains v);rw[<-k]at e⊢;clear k h;let⟨n,f⟩:=aq (v_ O p s);let⟨o,g⟩:=aq (uI O (kg b));rw[<-f,<-g]at e⊢;rw[<-f]at k0 j;rw[<-g]at d q1;clear f g;refine sc 2 2 apC ?_;refine Z akj ?_;repeat' first|refine bg akj (D.H5 e rfl (Mq rfl rfl rfl rfl k0 d i) λa c=>by grind[Pure.bu,bJ] .v) (λ_=>?_) λ_=>?_|refine fq ?_
 all_goals rw[show B=_ by assumption];exact⟨[],.aK .v,⟨.inl ⟨_,rfl,.same j.1⟩,.inl ⟨_,rfl,.same q1.1⟩,trivial⟩,rfl⟩
theorem U6(x:Gl):ab Y 71 [gl O x] (.v (.bool (ij x.op))):=by
 let⟨o,n,a⟩:=x;refine st auk g71 .v ?_;repeat' first|refine cg g71 (λb=>?_) λb=>?_|refine fq ?_
 all_goals subst_vars;refine aL ?_;rw[ij,bG_];simp;omega
end
section
def ir:List Nat:=[3,0,2,6,10,35]
attribute [local irreducible] ao aF D H
def Q5(p x:Fi):Bool:=decide (pf p x<0)
theorem K7(l:List Fi):lz l=(decide ((l.length:Int)<=5000)&&lu tW Q5 none l):=rfl
theorem ZD(l:List Fi)(A:l.length<=1099511627776)(e:∀x∈l,x.ok):ab Y 59 [kJ O l] (.v (.bool (lz l))):=by
 let⟨R,c⟩:=aq (lz l);rw[<-c];rw[K7]at c;refine st atU uE .v ?_;repeat' first|refine cg uE (λb=>?_) λb=>?_|refine lg uE λm B=>?_|refine fq ?_
 grind[aL];rw[decide_eq_true X,ay_]at c;refine H.ic (σ:=Int) 0 0 [] (λi=>[(0,kJ O l),(8,.v (.int .i64 m)),(9,.v (.int .i64 i))]) [] (λ_=>[]) (λi=>∃(k:Nat) (f:Option Fi),i=k/\k<=l.length/\R=lu tW Q5 f (l.drop k)/\Cy l k f) (λi=>l.length-i.toNat) 0 ⟨0,none,rfl,aB,I,.inl ⟨rfl,rfl⟩⟩ rfl cq ?_;rintro i⟨k,f,j,E,a,t⟩;clear c;refine Z uE ?_;by_cases u:k<l.length
 ·let⟨x,d,v⟩:=aA u;rw[v,j6]at a;have g:=aci (Y:=Y) (O:=O) x (e x (aW d));let⟨V,w⟩:=aq (tW x);rw[<-w]at g a;let⟨n,o⟩:=x;rcases t with⟨rfl,rfl⟩|⟨⟨p,q⟩,y,r,rfl⟩
  ·simp only[AW,bF_]at a;repeat' first|refine og uE (D.bh j d) ?_|refine bg uE (pl g) (λ_=>?_) λ_=>?_|refine cg uE (λb=>?_) λb=>?_|refine ag uE λ_ _=>?_|refine xG uE ?_|refine rG uE ?_|refine fq ?_
   all_goals first|omega|refine aL ?_;rw[a,show V=false by grind];rfl|refine H.bO (σ:=Int) _ [] ?_ ?_ cq;grind[j7];omega
  ·have s:=Y3 (Y:=Y) (O:=O) ⟨p,q⟩ ⟨n,o⟩ (e _ (aW r)) (e _ (aW d));simp only[AW,Q5]at a;let⟨C,z⟩:=aq (pf ⟨p,q⟩ ⟨n,o⟩);rw[<-z]at s a;repeat' first|refine og uE (D.bh j d) ?_|refine og uE (D.ind rfl rfl (eZ (l:=l) (k:=k-1) X r) (ec λ_=>rfl)) ?_|refine bg uE (pl g) (λ_=>?_) λ_=>?_|refine ig uE (pl s) λ_ _=>?_|refine cg uE (λb=>?_) λb=>?_|refine ag uE λ_ _=>?_|refine xG uE ?_|refine rG uE ?_|refine fq ?_
   all_goals first|omega|refine aL ?_;rw[a,show V=false by grind];rfl|refine aL ?_;rw[a,decide_eq_false (show¬C<0 by omega)];simp;done|refine H.bO (σ:=Int) _ [] ?_ ?_ cq;grind[j7];omega
 ·skip;repeat' first|refine cg uE (λb=>?_) λb=>?_|refine xG uE ?_|refine fq ?_
  all_goals first|omega|rw[a,al_ X,sm];exact aL rfl
theorem ZE(l:List Fi)(B:l.length<=1099511627776)(g:∀x∈l,x.ok):ab Y 112 [kJ O l] (.v (.bool (lz l))):=by
 let⟨R,d⟩:=aq (lz l);rw[<-d];rw[K7]at d;refine st ao1 ir .v ?_;repeat' first|exact dF a|refine cg ir (λa=>?_) λa=>?_|refine lg ir λm h=>?_|refine ag ir λ_ _=>?_|refine gT λ_ _=>?_;refine Z ir ?_|refine H.str rfl (D.cat rfl rfl I) λ_ _=>?_;refine Z ir ?_|refine xG ir ?_|refine rG ir ?_|refine fq ?_
 refine aL ?_;rw[d,decide_eq_false X];rfl;rw[decide_eq_true X,ay_]at d;refine H.ic (σ:=Int) 0 0 [] (λi=>[(0,kJ O l),(3,.v (.int .i64 i))]) [] (λ_=>[]) (λi=>∃(k:Nat) (j:Option Fi),i=k/\k<=l.length/\R=lu tW Q5 j (l.drop k)/\Cy l k j) (λi=>l.length-i.toNat) 0 ⟨0,none,rfl,aB,I,.inl ⟨rfl,rfl⟩⟩ rfl cq ?_;rintro i⟨k,j,p,E,b,u⟩;clear d;refine Z ir ?_;by_cases v:k<l.length
 ·let⟨x,c,w⟩:=aA v;rw[w,j6]at b;have n:=aha (Y:=Y) (O:=O) x (g x (aW c));let⟨V,y⟩:=aq (tW x);rw[<-y]at n b;let⟨e,f⟩:=x;rcases u with⟨rfl,rfl⟩|⟨⟨q,r⟩,z,s,rfl⟩
  ·simp only[AW,bF_]at b;repeat' first|refine og ir (D.bh p c) ?_|refine bg ir (pl n) (λ_=>?_) λ_=>?_|exact dF a|refine cg ir (λa=>?_) λa=>?_|refine lg ir λm h=>?_|refine ag ir λ_ _=>?_|refine gT λ_ _=>?_;refine Z ir ?_|refine H.str rfl (D.cat rfl rfl I) λ_ _=>?_;refine Z ir ?_|refine xG ir ?_|refine rG ir ?_|refine fq ?_
   all_goals first|omega|refine aL ?_;rw[b,show V=false by grind];rfl|refine H.bO (σ:=Int) _ [] ?_ ?_ cq;refine⟨0+1,some ⟨e,f⟩,X,X,?_,j7 c⟩;rw[b,show V=true by grind];rfl;omega
  ·have t:=Y5 (Y:=Y) (O:=O) ⟨q,r⟩ ⟨e,f⟩ (g _ (aW s)) (g _ (aW c));simp only[AW,Q5]at b;let⟨C,A⟩:=aq (pf ⟨q,r⟩ ⟨e,f⟩);rw[<-A]at t b;repeat' first|refine og ir (D.bh p c) ?_|refine og ir (D.ind rfl rfl (eZ (l:=l) (k:=k-1) X s) (ec λ_=>rfl)) ?_|refine bg ir (pl n) (λ_=>?_) λ_=>?_|refine ig ir (pl t) λ_ _=>?_|exact dF a|refine cg ir (λa=>?_) λa=>?_|refine lg ir λm h=>?_|refine ag ir λ_ _=>?_|refine gT λ_ _=>?_;refine Z ir ?_|refine H.str rfl (D.cat rfl rfl I) λ_ _=>?_;refine Z ir ?_|refine xG ir ?_|refine rG ir ?_|refine fq ?_
   all_goals first|omega|refine aL ?_;rw[b,show V=false by grind];rfl|refine aL ?_;rw[b,decide_eq_false (show¬C<0 by omega)];simp;done|refine H.bO (σ:=Int) _ [] ?_ ?_ cq;refine⟨k+1,some ⟨e,f⟩,X,X,?_,j7 c⟩;rw[b,show V=true by grind,decide_eq_true (show C<0 by omega)];rfl;omega
 ·skip;repeat' first|exact dF a|refine cg ir (λa=>?_) λa=>?_|refine lg ir λm h=>?_|refine ag ir λ_ _=>?_|refine gT λ_ _=>?_;refine Z ir ?_|refine H.str rfl (D.cat rfl rfl I) λ_ _=>?_;refine Z ir ?_|refine xG ir ?_|refine rG ir ?_|refine fq ?_
  all_goals first|omega|rw[b,al_ X,sm];exact aL rfl
end
theorem St.MC{A:Nat->Prop}{g:Gh}{w:World}{k fz p:Nat}{cs:Array Value}{ty:TypeId}{J9:List Value}(t:St Y A g S w)(u:S.get k=some (.arr sz rows fz ex))(v:g.al k)(V:w.heap[g.ob k]?=some (.cells cs ty (0,0)))(E:∀r∈G2,r.length=sz)(F:J9.length=G2.length*sz)(G:∀(i:Nat) (row:List AV) (j:Nat) (a:AV),G2[i]?=some row->row[j]?=some a->∃x,J9[i*sz+j]?=some x/\aN g w a x)(K:p+G2.length<=rows.length)(L:fz<=p):Ext A g w g (w.setRow (g.ob k) (cs.toList.take (p*sz)++J9++cs.toList.drop (p*sz+J9.length)).toArray)/\St Y A g (S.set k (some (.arr sz (rows.take p++G2++rows.drop (p+G2.length)) fz ex))) (w.setRow (g.ob k) (cs.toList.take (p*sz)++J9++cs.toList.drop (p*sz+J9.length)).toArray):=by
 let⟨W,k3,d,o,y,M,h3,h4,m,h6,z⟩:=t.cY k _ u v;obtain⟨rfl,rfl⟩:d=cs/\o=ty:=I;have hm:p*sz+G2.length*sz<=g.cp k*sz:=by rw[<-aM_];exact aT_ sz X
 have jF:p*sz+J9.length<=d.toList.length:=I;let⟨b,N⟩:=aq (d.toList.take (p*sz)++J9++d.toList.drop (p*sz+J9.length)).toArray;rw[<-N];have B:∀q,b[q]?=if q<p*sz then d[q]? else if q<p*sz+J9.length then J9[q-p*sz]? else d[q]?:=by grind[Cm]
 have P:b.size=d.size:=I;have C:(rows.take p++G2++rows.drop (p+G2.length)).length=rows.length:=I;exact t.row u v y (cs':=b) (ob:=.arr sz (rows.take p++G2++rows.drop (p+G2.length)) fz ex) (λJ=>⟨aB,aB⟩) λq Q=>by have:=(z q).1 Q;rw[B,if_pos (aD_ this (aT_ sz L))] λs=>by
  refine⟨b,o,setRow_heap w _ d b o (0,0) y,P.trans M,I,λh=>I,λi row c=>?_,I,z⟩;rw[Cm _ _ _ K]at c;split at c;rename_i R;refine⟨(m i row c).1,λj a f=>?_⟩;let⟨x,n,l⟩:=(m i row c).2 j a f;have hj:j<sz:=I;exact⟨x,by grind[nw],l.later s⟩;rename_i R;split at c;rename_i T;have C:=E row (am_ c);refine⟨C,λj a f=>?_⟩;let⟨x,n,l⟩:=G _ row j a c f;have au:=(aA_.1 n).1;have e:i*sz=p*sz+(i-p)*sz:=by rw[<-aM_];congr 1;omega
  exact⟨x,by rw[B,if_neg X,if_pos X,show i*sz+j-p*sz=(i-p)*sz+j by omega];exact n,l.later s⟩;rename_i T;refine⟨(m i row c).1,λj a f=>?_⟩;let⟨x,n,l⟩:=(m i row c).2 j a f;have e:p*sz+J9.length<=i*sz:=by rw[F,<-aM_];exact aT_ sz X
  exact⟨x,I,l.later s⟩
theorem xL{t e:TypeId}(h:me P t=some e):P.underlying t=some (.slice e):=by grind[me]
theorem JV{a:QO}{o:Op}(h:res P.toTables o=some (.copy sz a b)):∃c t t2 u v e d,o=.call c/\c.callee=.builtin .copy/\c.argTypes=#[t,t2]/\c.args=#[u,v]/\a=qo u/\b=qo v/\me P t=some e/\me P t2=some d/\eL P e=some sz:=by cases o<;>simp only[res,oo,gH]at h<;>(repeat' split at h)<;>(try cases h);exact⟨_,_,_,_,_,_,_,rfl,I,by rw[<-dz_ (xs:=Call.argTypes _)];congr,I,rfl,rfl,by assumption,by assumption,I⟩
theorem T_{t e:TypeId}{l c:Operand}{z:Value}{p kb:IntKind}{a b:Int}(C:o.op=.makeSlice t l c)(E:P.underlying t=some (.slice e))(hz:eB P e=some z)(hs:eL P e=some sz)(Bb:k_ P e=some MB)(F:z.cells.size=sz)(NN:0<sz)(G:U.ev l=.v (.int p a))(K:U.ev c=.v (.int kb b))(h1:0<=a)(h0:a<=b)(h2:b*MB<=35184372088832)(h3:b<=9223372036854775807):bj P Y n o U S (.ob S.nx sz 0 a.toNat none) (S.new (.arr sz (List.replicate b.toNat (z.cells.toList.map cd)) 0 true)):=by
 intro A g q w r s;let⟨i,L,M⟩:=oA hs;have N:i.zero=some z:=by grind[eB]
 have Bc:i.bytes=MB:=by grind[k_]
 have d:=s.ev l;have f:=s.ev c;rw[G]at d;rw[K]at f;have d:=cC d;have f:=cC f;have Q:=run_make (P:=P) w t e i z E L N p kb a b h1 h0 I h3;have R:∀q,¬g.fz w.heap.size q:=λq T=>absurd (r.dN _ _ T) (bT_ _);let⟨V,W⟩:=r.new (.cells (madeCells z.cells (b.toNat*i.size)) e) (.arr sz (List.replicate b.toNat (z.cells.toList.map cd)) 0 true) b.toNat (λJ=>aB) (λhL=>by
  refine⟨_,e,ep,?_,aB,λ_=>aB,λm row hr=>?_,aE_ _,λq=>⟨λh=>absurd h (R q),λh=>I⟩⟩;rw[size_madeCells,M];obtain⟨u,rfl⟩:=aA_.1 hr;simp only[bA_]at u;simp only[cS_];refine⟨I,λj b' v=>?_⟩;simp only[aX_,ba_]at v;obtain⟨y,hy,rfl⟩:=v;have x:j<sz:=I;refine⟨y,?_,nY y⟩;have au:m*sz+j<b.toNat*sz:=nw u x;have B:j<z.cells.size:=X;have e1:(m*sz+j)%z.cells.size=j:=by rw[F,bW_,cd_];exact ce_ x
  have e2:(madeCells z.cells (b.toNat*i.size))[m*sz+j]?=some z.cells[(m*sz+j)%z.cells.size]!:=by unfold madeCells;rw[bV_,cc_,if_pos I];rfl
  rw[e2,e1,getElem!_pos z.cells j B,<-hy,bf_,aI_ B]);refine⟨.slice (some ⟨w.heap.size,0,none⟩) a.toNat b.toNat,_,_,.inl ?_,?_,W,V⟩;simp only[execOp,C,d,f,Sem.run_bind,Q];rfl;have:=aN.ob (g:=g.new S.nx w.heap.size b.toNat) (w:=w.alloc (.cells (madeCells z.cells (b.toNat*i.size)) e)) (k:=S.nx) (sz:=sz) (off:=0) (len:=a.toNat) (c:=b.toNat) (cx:=none) (.inr rfl) (λm h=>I) (by rw[aH_];exact bX_ (aG _ _ _).symm) (λ_=>by rw[aH_];exact(aG _ _ _).symm) X;rw[show(g.new S.nx w.heap.size b.toNat).ob S.nx=w.heap.size from aG _ _ _,bc_]at this;exact this
theorem D.akl{z:List AV}{l c:QO}{k f:IntKind}{a b:Int}(h1:l.ev U.tm=.v (.int k a))(h2:c.ev U.tm=.v (.int f b))(h3:0<=a)(h4:a<=b)(h5:b*MB<=35184372088832)(h6:b<=9223372036854775807):D P Y false (.sw z MB l c) U S (.ob S.nx z.length 0 a.toNat none) (S.new (.arr z.length (List.replicate b.toNat z) 0 true)):=D.run λn o g=>by
 obtain⟨t,u,v,e,h,sz,i,rfl,rfl,j,m,p,q,rfl,d,r⟩:=U7 g;have s:(h.cells.toList.map cd).length=sz:=by rw[<-aS_ d];simp
 rw[aU]at h1 h2;rw[s];exact T_ i (xL j) m p q (aS_ d) (ax_ r) h1 h2 h3 h4 h5 h6
theorem D.auo{k fz len:Nat}{a:QO}{x:List AV}(h1:a.ev U.tm=.ob k sz 0 len none)(M:S.get k=some (.arr sz rows fz ex))(s:iH S (b.ev U.tm)=some (x::G2))(h0:fz<=len)(h2:len+(x::G2).length<=rows.length)(h3:∀row∈x::G2,row.length=sz/\row.all db=true):D P Y false (.append sz MB a b) U S (.ob k sz 0 (len+(x::G2).length) none) (S.set k (some (.arr sz (rows.take len++x::G2++rows.drop (len+(x::G2).length)) fz ex))):=D.run λn o l=>by
 obtain⟨c,t,t2,u,v,e,e2,z,ho,hc,C,E,rfl,rfl,y,F,hz,hs,Bb,sR,Bm⟩:=sj l;rw[aU]at h1 s;let⟨s,GL⟩:=j8 s;have C:c.argTypes=#[t,t2]:=by rw[<-dz_ (xs:=c.argTypes),C]
 have E:c.args=#[u,v]:=by rw[<-dz_ (xs:=c.args),E]
 have y:=xL y;have F:=xL F;intro A g q w G N;have Q:=N.ev u;have g2:=N.ev v;rw[h1]at Q;let⟨cc,e1,J,mL,va,R,hle⟩:=kp Q;let⟨b2,q2,c2,d,e3,QZ,f⟩:=sC G s g2 aB (λr l=>(h3 r l).1) GL;let⟨k2,k3,B,tt,T,p2,p3,p4,p5,p6,p7⟩:=G.cY k _ M J;let⟨i,K,L⟩:=oA hs;have mV:=R rfl;have V:len+(x::G2).length<=cc:=X;have jb:len*sz+(x::G2).length*sz<=g.cp k*sz:=by rw[<-aM_];exact aT_ sz X
 have W:0+len*i.size+d.length<=B.size:=by rw[f.1,p2,L];omega
 have dB:=z8 (P:=P) w t o.type e tt i y K (g.ob k) 0 len cc B T ⟨b2,q2,none⟩ (x::G2).length c2 d (by rw[f.1,L]) f.2.1 (JT f h3) V W;simp only[aH_,L]at dB W;let⟨hE,dG⟩:=G.MC (p:=len) (G2:=x::G2) (J9:=d) M J T (λr l=>(h3 r l).1) f.1 (λi row j a K ha=>f.2.2 i row K j a ha) h2 h0;refine⟨.slice (some ⟨g.ob k,0,none⟩) (len+(x::G2).length) cc,_,g,.inl ?_,?_,dG,hE⟩;have hx:(execOp q.eval o).run P w=((Builtin.append_ #[t,t2] o.type #[q.eval u,q.eval v]).run P w).andThen λv w'=>.ok (.value v) w':=by simp[execOp,ho,resolve,hc,C,E,invoke,builtin]
 rw[hx,e1,e3,vq y F,bc_,dB];rfl;have:=aN.ob (g:=g) (w:=w.setRow (g.ob k) (B.toList.take (len*sz)++d++B.toList.drop (len*sz+d.length)).toArray) (k:=k) (sz:=sz) (off:=0) (len:=len+(x::G2).length) (c:=cc) (cx:=none) J (λm h=>I) va R V;rw[bc_]at this;exact this
end Go.Proofs.YtbdcmpknicjopaaGreat
