import Derived.JoinedCond
import Derived.Lib.Overlaps
import Derived.ProofKit
import Derived.RecoverIn
import Derived.TacticsIn
import Derived.TacticsInMore
import Derived.Test.YtbdcmpknicjopaaGreatProg
import Derived.Test.YtbdcmpknicjopaaGreatRows
import Derived.Test.YtbdcmpknicjopaaGreatTb28
namespace Go.Proofs.YtbdcmpknicjopaaGreat
set_option linter.all false
set_option maxRecDepth 100000
open Go.RowKit Proofs.Tryz
variable{B M n:Nat}{J J':zz9}{K:List gE}{O:Hd}{P:Program}{Q Q':Exit->AA->ah->Prop}{R:AA->ah->Prop}{S S':ah}{U aE:AA}{Y:World}{a b fr:Int}{dr:Bool}{e env:List Bd}{f:Tm->Tm}{g:Gl}{i:QI}{r:AV}{s s':XS}{x:QO}
variable{ex:Bool}{l:List AV}{N:Nat}
section
open Go.ChangeShapes Go.WideShapes Go.ChangeAt Go.RowKit
theorem laidOut:laidOutB prog=true:=by kernel_rfl
theorem Uf:mapsRowed prog=true:=by kernel_rfl
theorem ahO:prog.stopsHeard=true:=by kernel_rfl
theorem ahP:prog.mayEnter=true:=by kernel_rfl
theorem gp{a b:Bool}(h:a=true)(k:b=true):(a&&b)=true:=by rw[h,k];rfl
end
def G7(N:aT):Prop:=∀i,i<N.length->(tn N i).k=1->0<=(tn N i).i/\(tn N i).i<=1099511627776
theorem G7.push{N:aT}(h:G7 N){t:Tm}{l:List Nat}(c:t.k=1->0<=t.i/\t.i<=1099511627776):G7 (N++[(t,l)]):=by intro i b a;by_cases e:i<N.length;have d:∀i,i<N.length->(N++[(t,l)])[i]?=N[i]?:=λi b=>bi_ b;rw[(fM d e).1]at a⊢;exact h i e a;have:i=N.length:=I;subst this;rw[ng.1]at a⊢;exact c a
mutual theorem Df:∀(N:aT)(t:Tm),G7 N->td t->G7 (b_ N t).1|N,⟨k,i,n,a⟩,h,b=>by rw[td]at b;rw[b_];split;grind;exact(Si N a h b.2).push b.1;theorem Si:∀(N:aT)(l:List Tm),G7 N->pb l->G7 (cu N l).1|N,[],h,_=>by rw[cu];exact h|N,x::l,h,b=>by rw[pb]at b;rw[cu];exact Si _ l (Df N x h b.1) b.2;end
theorem vf.vb{l:List (Tm×Tm)}{s s':PS}{b:Bool}(h:vf l s b s'):GI s->G7 s.N->(∀e∈l,(eY e.1/\kN e.1/\td e.1)/\eY e.2/\kN e.2/\td e.2)->GI s'/\G7 s'.N:=by induction h with|nil=>exactλc g _=>⟨c,g⟩|@no a b l s j m h =>intro c g q;let⟨⟨d,i,v1⟩,f,n,o⟩:=q (a,b) aB;simp only at d i v1 f n o;have p:=(c.add d i).1;have t:=(p.add f n).1;have u:=(uA s a c.V d).1;have v:=(uA (cy s a).1 b p.V f).1;refine⟨t.join h,?_⟩;show G7 (cy (cy s a).1 b).1.N;rw[v];refine Df _ _ ?_ o;rw[u];exact Df _ _ g v1|@go a b l s s' j m r h k w =>intro c g q;let⟨⟨d,i,v1⟩,f,n,o⟩:=q (a,b) aB;simp only at d i v1 f n o;have p:=(c.add d i).1;have t:=(p.add f n).1;have u:=(uA s a c.V d).1;have v:=(uA (cy s a).1 b p.V f).1;refine w (t.join h) ?_ λe x=>q e I;show G7 (cy (cy s a).1 b).1.N;rw[v];refine Df _ _ ?_ o;rw[u];exact Df _ _ g v1
theorem aak:∀{l m:List Int},l.Nodup->(∀x∈l,x∈m)->l.length<=m.length|[],m,_,_=>aE_ _|x::l,m,a,b=>by rw[bM_]at a;have c:=aak (l:=l) (m:=m.erase x) a.2 λy d=>(List.mem_erase_of_ne λe=>a.1 I).2 (b y I);have f:=dJ_ (b x aB);have g:0<m.length:=List.length_pos_of_mem (b x aB);rw[aC_];omega
noncomputable def qS(l r:List Tm):List Bd×Int:=if(l.any λx=>! cK x)=true then([],2) else if(r.any λx=>! cK x)=true then([],2) else if l.length=r.length then oF je (l.zip r) else([],9)
def G8(O:Hd)(p:List Bd×Int):AV:=.aJ [bf O p.1,iv p.2]
def iO(p:List Bd×Int):Pure (G8 O p):=.aJ (wO (bC _) .v)
theorem sG{S:ah}{c:Int}:aH S (.aJ [.sl true [],iv c]) (G8 O ([],c)):=by refine .aJ rfl λi a e b d=>?_;match i with|0 =>cases oJ_ b;cases oJ_ d;rw[bf,bF];exact aH.wk|1 =>cases oJ_ b;cases oJ_ d;exact .refl _|i+2=>simp at b
theorem Sj:∀(E:List (Tm×Tm)),(∀e∈E,cP e.1<=200/\cP e.2<=200)->zX E<=400*E.length|[],_=>by simp[zX]|e::E,h=>by have a:=h e aB;have b:=Sj E λx c=>h x I;rw[zX,aC_];omega
theorem ao.fz{Y:World}{g:Nat}{r a:AV}(h:ao P Y g l r)(b:∀S,aH S r a)(c:Pure a):ao P Y g l a:=by let⟨_,S',d⟩:=h;exact ao.zJ d (b _) c
theorem alA{l r:List Tm}(hl:l.length<=100000000)(hr:r.length<=100000000)(uM:∀x∈l,x.ok)(j_:∀x∈r,x.ok):ab Y 167 [tl O l,tl O r] (G8 O (qS l r)):=by
 have n:=RJ (Y:=Y) (O:=O) l X uM;have s:=RJ (Y:=Y) (O:=O) r X j_;unfold qS;by_cases B:(l.any λx=>! cK x)=true;rw[if_pos B];rw[B]at n;exact ao.fz (wQ (iN 2) (adb n)) (λS=>sG) (iO _);rw[if_neg B];rw[df_]at B;rw[B]at n;by_cases C:(r.any λx=>! cK x)=true;rw[if_pos C];rw[C]at s;exact ao.fz (wQ (iN 2) (ade n s)) (λS=>sG) (iO _);rw[if_neg C];rw[df_]at C;rw[C]at s;by_cases u:l.length=r.length;rotate_left;rw[if_neg u];exact ao.fz (wQ (iN 9) (adf n s u)) (λS=>sG) (iO _);rw[if_pos u];have p:∀x∈l,eY x/\kN x/\vi x/\td x/\cP x<=200:=λx f=>xD I (uM x f);have q:∀x∈r,eY x/\kN x/\vi x/\td x/\cP x<=200:=λx f=>xD I (j_ x f);have g:∀e∈l.zip r,e.1∈l/\e.2∈r:=λe d=>⟨(cB_ d).1,(cB_ d).2⟩;have Q:zX (l.zip r)<=100000000000:=by have:=Sj (l.zip r) λe d=>⟨(p _ (g e d).1).2.2.2.2,(q _ (g e d).2).2.2.2.2⟩;rw[cG_]at this;omega
 let⟨b,s',T,hf,ht⟩:=ag_ (l.zip r) (λe d=>⟨⟨(p _ (g e d).1).1,(p _ (g e d).1).2.1⟩,(q _ (g e d).2).1,(q _ (g e d).2).2.1⟩) Q;have W:∀x∈l,eY x/\kN x:=λx f=>⟨(p x f).1,(p x f).2.1⟩;have G_:∀x∈r,eY x/\kN x:=λx f=>⟨(q x f).1,(q x f).2.1⟩;have E:(b=true->aF prog Y 233 [.pt 0 6 0 0] (aw (gS O s' []) 7) (.aJ [.sl true [],iv 13]) (aw [] 7))->oF je (l.zip r)=([],13)->ab Y 167 [tl O l,tl O r] (G8 O (oF je (l.zip r))):=λw z=>by rw[z];exact ao.fz (wQ (iN 13) (W6 X n s W G_ u Q T (.sl λr hr=>I) (λ_=>⟨⟨rfl,rfl⟩,rfl⟩) w)) (λS=>sG) (iO _)
 cases b with|false=>exact E (λh=>I) (hf rfl)|true =>
  let⟨A,mJ,hle,b2,up,kn,hm,F,G⟩:=ht rfl;let⟨Li,J⟩:=T.vb .nil (λi hi=>I) λe d=>⟨⟨(p _ (g e d).1).1,(p _ (g e d).1).2.1,(p _ (g e d).1).2.2.2.1⟩,(q _ (g e d).2).1,(q _ (g e d).2).2.1,(q _ (g e d).2).2.2.2.1⟩;have acQ:∀x∈s'.vs.map (·.1),∃i,i<s'.N.length/\(tn s'.N i).k=1/\(tn s'.N i).i=x:=λx f=>by let⟨k,hk⟩:=xp.1 f;rw[A.vs]at hk;cases hv:oC s'.N x with|none=>rw[hv]at hk;cases hk|some j=>exact⟨j,Gb hv⟩
  have K:∀x∈s'.vs.map (·.1),0<=x/\x<=1099511627776:=λx f=>by let⟨i,w,z,h3⟩:=acQ x f;have:=J i w z;rw[h3]at this;exact this
  have xw:s'.vs.length<=s'.N.length:=by
   have:=aak (l:=s'.vs.map (·.1)) (m:=s'.N.map λx=>x.1.i) A.nd λx f=>by grind[tn]
   rwa[bo_,bo_]at this
  obtain⟨N,t,⟨P,sh,ls⟩⟩:=s';simp only at A mJ hle hm F G Li J K xw;have hu:P.length=N.length:=A.up;have hG:∀{R:AV},Pure R->(b2=false->R=.aJ [.sl true [],iv 13])->(b2=true->∃L M V,xA L/\(∀v,v∈L↔v∈t.map (·.1))/\L.length<=100000000000/\zW N sh ls t kn M L up []=some V/\R=ac_ O V) ->aF prog Y 233 [.pt 0 6 0 0] (aw (gS O ⟨N,t,⟨P,sh,ls⟩⟩ []) 7) R (aw [] 7):=λhp w z=>by rw[<-ky (nl:=N.length) (ul:=N.length) rfl hu];exact ada (CE.of Li.G Li.A) rfl I I hu I A.nd K hm hp w z
  cases b2 with|false=>exact E (λ_=>hG (iN 13) (λ_=>rfl) λh=>I) (F rfl)|true =>
   have hs:=dT_ (t.map (·.1)) λx y=>decide (x<=y);let⟨L,hL⟩:=aq ((t.map (·.1)).mergeSort λx y=>decide (x<=y));have Sd:xA L:=by rw[hL];refine ym ?_ (hs.nodup_iff.2 A.nd);have:=dU_ (le:=λx y:Int=>decide (x<=y)) (λa b c w z=>I) (λa b=>I) (t.map (·.1));exact this.imp λh=>I
   have jH:∀v,v∈L↔v∈t.map (·.1):=λv=>I;have qC:L.length<=100000000000:=by rw[hL,dV_,bo_];omega
   let⟨M,V,ho,d⟩:=G rfl L Sd jH;rw[d];cases V with|none =>exact ao.fz (wQ (iN 6) (W6 X n s W G_ u Q T (.sl λr hr=>I) (λh=>I) λ_=>hG (iN 6) (λh=>I) λ_=>⟨L,M,none,Sd,jH,qC,ho,rfl⟩)) (λS=>sG) (iO _)|some o =>exact wQ (iO (o,0)) (W6 X n s W G_ u Q T (bC o) (λh=>I) λ_=>hG (iO (o,0)) (λh=>I) λ_=>⟨L,M,some o,Sd,jH,qC,ho,rfl⟩)
theorem adh{a b:Tm}(d:a.ok)(e:b.ok):ab Y 293 [tm O a,tm O b] (G8 O (qS [a] [b])):=by have h:=alA (Y:=Y) (O:=O) (l:=[a]) (r:=[b]) aB aB (λx c=>I) λx c=>I;exact ahB (iO _) h
def Sk{a b:Tm}(c:a.ok)(d:b.ok):ab Y 240 [tm O a,tm O b] (.v (.bool (decide ((qS [a] [b]).2=0\/(qS [a] [b]).2=6)))):=Uc (adh c d)
mutual theorem Ha:∀t:Tm,dm t<=cP t|⟨k,i,n,a⟩=>by rw[dm,cP];have:=Es a;split<;>omega;theorem Es:∀l:List Tm,bt l<=bG l|[]=>by rw[bt,bG];omega|x::l=>by rw[bt,bG];have:=Ha x;have:=Es l;omega;end
mutual theorem Og:∀t:Tm,(eF t).length<=cP t |⟨k,i,n,a⟩=>by rw[eF,cP];have:=Lm a;split;simp;grind;theorem Lm:∀l:List Tm,(aZ l).length<=bG l|[]=>by rw[aZ,bG];simp|x::l=>by rw[aZ,bG,ar_];have:=Og x;have:=Lm l;omega;end
theorem Dg:∀l:List Tm,l.length<=bG l|[]=>aE_ _|x::l=>by rw[bG,aC_];have:=Dg l;have:=fL x;omega
def iD(M:Nat)(e:List Bd):Prop:=∀b∈e,cP b.t<=M
theorem iD.Ff(h:iD M e){v:Int}{u:Tm}(a:mQ e v=some u):cP u<=M:=by unfold mQ at a;cases c:e.find? λb=>b.v==v with|none=>rw[c]at a;cases a|some b=>rw[c]at a;cases oJ_ a;exact h b (cb_ c)
theorem Et{s x y:Nat}(h1:x<=s*M)(h2:1<=M)(h3:y=x+1):y<=(s+1)*M:=I
mutual theorem adi{M:Nat}{e:List Bd}(c:iD M e)(b:1<=M):∀t:Tm,cP (iT e t)<=cP t*M
 |⟨k,i,n,a⟩=>by
  have g:∀t:Tm,t.a=a->cP t<=cP ⟨k,i,n,a⟩*M:=λt d=>by rw[fL t,cP,d];exact Et (cu_ _ b) b X
  rw[iT];split;split;rename_i u f;have:=c.Ff f;rw[cP];exact az_ this I;grind;split;rw[cP,cP];exact Et (Hb c b a) b rfl;grind;theorem Hb{M:Nat}{e:List Bd}(c:iD M e)(b:1<=M):∀l:List Tm,bG (u0 e l)<=bG l*M|[]=>by rw[u0,bG];omega|x::l=>by rw[u0,bG,bG,aM_];have:=adi c b x;have:=Hb c b l;omega;end
mutual theorem adj{M:Nat}{e:List Bd}{fr:Int}(c:iD M e)(b:1<=M):∀t:Tm,cP (ly e fr t)<=cP t*M
 |⟨k,i,n,a⟩=>by
  have g:∀t:Tm,bG t.a<=bG a->cP t<=cP ⟨k,i,n,a⟩*M:=λt d=>by rw[fL t,cP];exact Et (az_ d (cu_ _ b)) b X
  rw[ly];split;split;rename_i u f;have:=c.Ff f;rw[cP];exact az_ this I;grind[bG];split;grind[bG];split;rw[cP,cP];exact Et (Hc c b a) b rfl;grind;theorem Hc{M:Nat}{e:List Bd}{fr:Int}(c:iD M e)(b:1<=M):∀l:List Tm,bG (n4 e fr l)<=bG l*M|[]=>by rw[n4,bG];omega|x::l=>by rw[n4,bG,bG,aM_];have:=adj (fr:=fr) c b x;have:=Hc (fr:=fr) c b l;omega;end
theorem Ik{k i:Int}{n:ByteArray}{a:List Tm}(h1:a.length<=1099511627776)(h2:n.size<=1099511627776)(h3:dS a):(⟨k,i,n,a⟩:Tm).ok:=by rw[Tm.ok];exact⟨h1,h2,h3⟩
theorem aal{k i:Int}:(⟨k,i,⟨#[]⟩,[]⟩:Tm).ok:=Ik aB aC (by rw[dS];trivial)
mutual theorem alE{e:List Bd}(b:fA e):∀t:Tm,t.ok->(iT e t).ok |⟨k,i,n,a⟩,h=>by rw[Tm.ok]at h;rw[iT];split;split;rename_i u c;exact b.Ff c;exact Ik h.1 h.2.1 h.2.2;split;exact Ik (by rw[uz,bo_];exact h.1) h.2.1 (MU b a h.2.2);exact Ik h.1 h.2.1 h.2.2;theorem MU{e:List Bd}(b:fA e):∀l:List Tm,dS l->dS (u0 e l)|[],h=>by rw[u0];exact h|x::l,h=>by rw[dS]at h;rw[u0,dS];exact⟨alE b x h.1,MU b l h.2⟩;end
mutual theorem alF{e:List Bd}{fr:Int}(b:fA e):∀t:Tm,t.ok->(ly e fr t).ok |⟨k,i,n,a⟩,h=>by rw[Tm.ok]at h;rw[ly];split;split;rename_i u c;exact b.Ff c;exact aal;split;exact aal;split;exact Ik (by rw[pQ,bo_];exact h.1) h.2.1 (MV b a h.2.2);exact Ik h.1 h.2.1 h.2.2;theorem MV{e:List Bd}{fr:Int}(b:fA e):∀l:List Tm,dS l->dS (n4 e fr l)|[],h=>by rw[n4];exact h|x::l,h=>by rw[dS]at h;rw[n4,dS];exact⟨alF b x h.1,MV b l h.2⟩;end
def nc(M:Nat)(g:Gl):Prop:=dS g.a/\bG g.a<=M/\g.n.size<=1099511627776
def Fp(M:Nat)(x:At):Prop:=dS x.a/\bG x.a<=M/\x.n.size<=1099511627776
def Fp.ok{x:At}(h:Fp M x)(a:M<=1099511627776):x.ok:=⟨az_ (Dg _) (az_ h.2.1 a),h.1⟩
def nc.ok(h:nc M g)(a:M<=1099511627776):g.ok:=⟨az_ (Dg _) (az_ h.2.1 a),h.1⟩
def nc.o6(h:nc M g)(a:M<=1099511627776):o6 g.a:=⟨h.1,az_ (Es _) (az_ h.2.1 a)⟩
def nc.mono(h:nc M g)(a:M<=N):nc N g:=⟨h.1,az_ h.2.1 a,h.2.2⟩
theorem nc.app(h:nc N g)(a:iD M e)(b:fA e)(c:1<=M):nc (N*M) (gD e g) :=⟨by rw[gD,<-uz];exact MU b _ h.1,by rw[gD,<-uz];exact az_ (Hb a c _) (aT_ _ h.2.1),h.2.2⟩
theorem nc.ins(h:nc N g)(a:iD M e)(b:fA e)(c:1<=M):nc (N*M) (gz e fr g) :=⟨by rw[gz,<-pQ];exact MV b _ h.1,by rw[gz,<-pQ];exact az_ (Hc a c _) (aT_ _ h.2.1),h.2.2⟩
theorem Ln{a b:Tm}(c:cK a=true)(d:cK b=true):qS [a] [b]=oF je [(a,b)]:=by unfold qS;simp[c,d]
theorem xf(h:de g=true):∀x∈g.a,cK x=true:=by grind[de,ft,nU]
theorem Lo(h:de g=true)(a:g.op≠0):arity g.op=g.a.length:=by grind[de]
theorem fl1(c:0<b)(d:0<=a):a.tdiv b=a.fdiv b:=I
theorem fl2(e:0<b)(i:a<0):-(b-1-a).tdiv b=a.fdiv b:=by rw[Int.tdiv_eq_ediv_of_nonneg X,Int.fdiv_eq_ediv_of_nonneg _ X];have f:=Int.mul_ediv_add_emod a b;have g:=Int.emod_nonneg a (by omega:b≠0);have h:=Int.emod_lt_of_pos a e;let⟨q,c⟩:=aq (a/b);let⟨r,d⟩:=aq (a%b);rw[<-c,<-d]at f;rw[<-d]at g h;rw[<-c];have:b-1-a=b-1-r+b*-q:=I;rw[this,Int.add_mul_ediv_left _ _ X,Int.ediv_eq_zero_of_lt X X];omega
theorem afU(c:b≠0):a.fdiv b=if a.tmod b≠0/\decide (a<0)≠decide (b<0) then a.tdiv b-1 else a.tdiv b:=by rw[Int.fdiv_eq_tdiv];by_cases h:b ∣ a;rw[if_pos h,if_neg λk=>k.1 (Int.tmod_eq_zero_of_dvd h)];omega;have d:a.tmod b≠0:=λk=>h (Int.dvd_of_tmod_eq_zero k);rw[if_neg h];have f:a≠0:=λe=>h (by rw[e];exact Int.dvd_zero b);by_cases g:a<0;grind;grind
theorem aam(h1:-2147483650<=a)(h2:a<=2147483650)(h3:-2147483650<=b)(h4:b<=2147483650):-4611686027017322500<=a*b/\a*b<=4611686027017322500:=by have h:=Int.natAbs_mul a b;have:a.natAbs*b.natAbs<=2147483650*2147483650:=Nat.mul_le_mul X X;omega
theorem wT{n:Int}:iM n=true↔-2147483648<=n/\n<=2147483648:=by grind[iM]
theorem D.aqi(h1:x.ev U.tm=.v (.int .i64 a))(b:-9223372036854775807<=a)(c:a<=9223372036854775807):D P Y dr (.neg x) U S (.v (.int .i64 (0-a))) S:=by have:=D.neg (P:=P) (Y:=Y) (S:=S) (dr:=dr) h1;rw[O9 X X]at this;exact this
theorem D.aqj{isB:BK}{y:QO}(h1:x.ev U.tm=.v (.int .i64 a))(h2:y.ev U.tm=.v (.int .i64 b))(c:b≠0)(d:-9223372036854775808<=a.tdiv b)(e:a.tdiv b<=9223372036854775807):D P Y false (.bin .quo isB x y) U S (.v (.int .i64 (a.tdiv b))) S:=by have:=D.quo (P:=P) (Y:=Y) (S:=S) (isB:=isB) h1 h2 c;rw[O9 X X]at this;exact this
theorem D.alG{isB:BK}{y:QO}(h1:x.ev U.tm=.v (.int .i64 a))(h2:y.ev U.tm=.v (.int .i64 b))(c:b≠0)(d:-4294967300<=a)(e:a<=4294967300):D P Y false (.bin .quo isB x y) U S (.v (.int .i64 (a.tdiv b))) S:=by have h:=cJ_ a b;exact D.aqj h1 h2 c X X
def D.au4{isB:BK}{y:QO}(h1:x.ev U.tm=.v (.int .i64 a))(h2:y.ev U.tm=.v (.int .i64 b))(c:b≠0):D P Y false (.bin .rem isB x y) U S (.v (.int .i64 (a.tmod b))) S:=D.rem h1 h2 c
theorem D.adk{isB:BK}{y:QO}(h1:x.ev U.tm=.v (.int .i64 a))(h2:y.ev U.tm=.v (.int .i64 b))(d:-2147483650<=a)(e:a<=2147483650)(f:-2147483650<=b)(c:b<=2147483650):D P Y dr (.bin .mul isB x y) U S (.v (.int .i64 (a*b))) S:=by have h:=aam d e f c;exact D.yU h1 h2 rfl X X
theorem ahQ(h1:-2147483648<=a)(h2:a<=2147483648):-2147483648<=a.tdiv b/\a.tdiv b<=2147483648:=by have h:=cJ_ a b;omega
theorem qbd{q:Int}(c:q=a.tdiv b)(d:-4294967300<=a)(e:a<=4294967300):-4294967300<=q/\q<=4294967300:=by have h:=cJ_ a b;omega
theorem mbd{q:Int}(c:q=a*b)(h1:-2147483650<=a)(h2:a<=2147483650)(h3:-2147483650<=b)(h4:b<=2147483650):-4611686027017322500<=q/\q<=4611686027017322500:=by rw[c];exact aam h1 h2 h3 h4
theorem Oh(b:UInt8):(⟨⟨[b]⟩⟩:ByteArray).toList=[b]:=by unfold ByteArray.toList;unfold ByteArray.toList.loop;unfold ByteArray.toList.loop;simp[ByteArray.size,ByteArray.get!]
theorem alI(n:ByteArray)(a b:Int):N_ n a b=if n.toList=(⟨⟨[43]⟩⟩:ByteArray).toList then(a+b,0) else if n.toList=(⟨⟨[45]⟩⟩:ByteArray).toList then(a-b,0) else if n.toList=(⟨⟨[42]⟩⟩:ByteArray).toList then(a*b,0) else if b=0 then(0,12) else if n.toList=(⟨⟨[47]⟩⟩:ByteArray).toList then(a.fdiv b,0) else(a-a.fdiv b*b,0):=by unfold N_;simp only[Oh]
theorem Vu(c:b≠0)(h1:-2147483648<=a)(h2:a<=2147483648):-2147483649<=a.fdiv b/\a.fdiv b<=2147483648:=by have h:=ahQ (b:=b) h1 h2;rw[afU c];split<;>omega
section
attribute [local irreducible] ao aF D H
def aqk:=aD func275 call275
def Xe:List Nat:=[3,4,8,0,1,9,6,18,5,20]
def aql:=aD func211 call211
def yx:List Nat:=[6,1,5,4,10,0]
def aqm:=aD func148 call148
def alJ:List Nat:=[3,4,1,0]
theorem Oi(b:List Bd)(v:Int):(gj b v).2=(mQ b v).isSome/\∀u,mQ b v=some u->(gj b v).1=u:=by grind[gj,mQ]
theorem Oj(a:List Tm)(y:a.length<=100000000000)(o:∀x∈a,ab Y 275 [bf O env,tm O x] (tm O (f x))):ab Y 211 [bf O env,tl O a] (tl O (a.map f)):=by
 let⟨R,g⟩:=aq (a.map f);rw[<-g];refine st aql yx (c9 _) ?_;refine cr (τ:=List Tm×Nat) 0 1 [] (λp=>[(0,bf O env),(1,tl O a),(5,.gr 0 4 p.2.2),(6,.v (.int .i64 p.1))]) [] (λp=>[(0,.arr 4 (O.h (List.map (ld O)) p.2.1) 0 false)]) a.length (λk p=>R=p.2.1++(a.drop k).map f/\p.2.2=p.2.1.length/\p.2.1.length=k) ([],0) ⟨I,rfl,rfl⟩ ?_;rintro i k⟨A,len⟩h B⟨b,c,q⟩;simp only at h b c q;clear g;refine Z yx ?_;by_cases r:k<a.length
 ·let⟨x,j,s⟩:=aA r;have n:=o x (aW j);rw[s,aF_]at b;let⟨d,t⟩:=aq (f x);rw[<-t]at n b;repeat' first|refine og yx (D.ind rfl rfl (cD (l:=a) h j) cE) ?_|apply a8 yx n|refine H.app (x:=d) (f:=ld O) rfl rfl rfl c (λ_=>rfl) rfl rfl rfl rfl X λs' u C E=>?_;refine Z yx ?_|refine cg yx (λe=>?_) λe=>?_|refine lg yx λm v=>?_|refine ag yx λ_ _=>?_|refine xG yx ?_|refine fq ?_
  all_goals first|omega|refine H.bO (_,s',u) [(0,1)] ?_ ?_ (by exact⟨sq,rfl,⟨.inl ⟨_,rfl,.same (kG λx _ a w=>ue x a w)⟩,trivial⟩,rfl,rfl,rfl⟩);grind;simp only;omega
 ·skip;repeat' first|refine cg yx (λe=>?_) λe=>?_|refine lg yx λm v=>?_|refine xG yx ?_|refine fq ?_
  all_goals first|omega|rw[b,al_ X,aR_,aG_,<-R9];exact aH.grow rfl c
theorem adl(q:env.length<=1099511627776)(n:Nat):∀x:Tm,cP x<=n->n<=100000000000->ab Y 275 [bf O env,tm O x] (tm O (iT env x)):=by induction n with|zero=>intro x h;have:=fL x;omega|succ n o =>
  intro x p r;rw[fL]at p;have s:=qn x.a;have j:=Oj (Y:=Y) (O:=O) (f:=iT env) (env:=env) x.a X λy t=>o y (by have:=lC y t;omega) X;have e:=P3 (Y:=Y) (O:=O) env x.i q;let⟨d,l⟩:=Oi env x.i;let⟨R,c⟩:=aq (iT env x);rw[<-c];let⟨k,i,m,a⟩:=x;rw[iT,uz]at c;simp only at j e d l c;clear o p r s;let⟨A,v⟩:=aq (a.map (iT env));rw[<-v]at j c;let⟨⟨⟨B,C,un,E⟩,b⟩,w⟩:∃L,L=gj env i:=⟨_,rfl⟩;rw[<-w]at e d l;simp only at e d l;refine st aqk Xe (bI _) ?_;repeat' first|apply a8 Xe j|refine H.op rfl (pl e) ?_;cases b<;>refine Z Xe ?_|refine cg Xe (λz=>?_) λz=>?_|refine fq ?_
  all_goals clear j e
  all_goals first
   |(have h:R=⟨k,i,m,A⟩:=by rw[c,if_neg X,if_pos X]
     rw[h];exact .refl _)
   |(have h:R=⟨k,i,m,a⟩:=by rw[c,if_neg X,if_neg X]
     rw[h];exact .refl _)|cases g:mQ env i with
     |none =>
      have h:R=⟨k,i,m,a⟩:=by rw[c,if_pos X,g]
      first|rw[h];exact .refl _|rw[g]at d;cases d
     |some u =>
      have h:R=u:=by rw[c,if_pos X,g]
      first|rw[h,<-l u g];exact .refl _|rw[g]at d;cases d
def ahR(a:env.length<=1099511627776)(x:Tm)(b:cP x<=100000000000):ab Y 275 [bf O env,tm O x] (tm O (iT env x)):=adl a _ x (aa_ _) b
theorem Sl(c:env.length<=1099511627776)(g:Gl)(e:bG g.a<=100000000000):ab Y 148 [bf O env,gl O g] (gl O (gD env g)):=by
 have b:=Oj (Y:=Y) (O:=O) (f:=iT env) (env:=env) g.a (by grind[qn]) λy h=>ahR c y (by have:=lC y h;omega);rw[gD];let⟨o,n,a⟩:=g;simp only at b⊢;let⟨A,d⟩:=aq (a.map (iT env));rw[<-d]at b⊢;clear d e c;refine st aqm alJ (iX _) ?_;repeat' first|apply a8 alJ b|refine fq ?_
 exact .refl _
end
def tP(T:Tables)(n:Nat):Code->Option QC
 |.skip=>some .skip|.label _=>some .skip|.region _ g dr=>match vN T n g.toList g.toList with
  |some l=>match dr with|false=>some (.bk false l)|true=>match Il g with|true=>some (.kL (Lp g) l)|false=>none
  |none=>none
 |.seq a b=>match tP T n a,tP T n b with|some d,some e=>some (.seq d e)|_,_=>none
 |.cond c a b=>match tP T n a,tP T n b with|some d,some e=>some (.cond (qo c) d e)|_,_=>none
 |.block id a=>match tP T n a with|some d=>some (.block id d)|none=>none
 |.scope a=>match tP T n a with|some d=>some (.scope d)|none=>none
 |.loop a=>match tP T n a with|some d=>some (.loop d)|none=>none
 |.exit id=>some (.exit id)|.ret=>some .ret|.rangeFunc f h a b=>match tP T n a,tP T n b with|some d,some e=>some (.Sm (qo f) h.toList d e)|_,_=>none
 |c=>some (.raw c)
def okE(x y:List Nat×List Nat×Bool):Bool:=match isX x,isX y with|none,none=>dj x y|some l,none=>rdr y l|none,some l=>rdr x l|some _,some _=>false
def au5(V:List (Nat×Nat))(lg:List (List Nat×List Nat×Bool)):Bool:=V.all λp=>okE (MW lg p.1) (MW lg p.2)
def Dt.ok(d:Dt):Prop:=isX d.ns=none
section
variable(P:Program)(Y:World)(rd:Bool)(n:Nat)
def QWx(b:QC)(Q:Exit->AA->ah->Prop)(U:AA)(S:ah):Prop:=∀c,tP P.toTables n c=some b->gR P c=true->Wp P Y rd n c Q U S
def rT(Q:Exit->AA->ah->Prop):List gE->Exit->AA->ah->Prop
 |[]=>Q|.seq b::K=>λex U S=>match ex with|.normal=>QWx P Y rd n b (rT Q K) U S|e=>rT Q K e U S
 |.Bw id::K=>λex U S=>match ex with|.exit j=>(match Nat.beq j id with|true=>rT Q K .normal U S|false=>rT Q K (.exit j) U S)|e=>rT Q K e U S
 |.Sn::K=>λex U S=>match ex with|.goto _=>False|e=>rT Q K e U S
def Xf(B:Nat)(V:List (Nat×Nat))(lg:List (List Nat×List Nat×Bool))(l:List QI)(Q:AA->ah->Prop)(U:AA)(S:ah):Prop :=∀b:List Oper,vN P.toTables n b (b.drop lg.length)=some l->Lp b.toArray=V->∃(a:Nat->Dt×Option Je) (aE:AA) (S':ah),J8 P Y n b.toArray B a (List.range' lg.length l.length) U S aE S' /\au5 V (lg++(List.range' lg.length l.length).map λi=>Ff (a i))=true/\(∀i∈List.range' lg.length l.length,(a i).2=none->(a i).1.ok)/\Q aE S'
def wpX(Q:Exit->AA->ah->Prop):QF->AA->ah->Prop
 |.run c K,U,S=>QWx P Y rd n c (rT P Y rd n Q K) U S|.out ex K,U,S=>rT P Y rd n Q K ex U S|.bk dr l K,U,S=>match dr with|false=>lD P Y n false l (λU S=>rT P Y rd n Q K .normal U S) (λa U S=>rT P Y rd n Q K (.panic a) U S) U S|true=>False
 |.kL B V lg b l K,U,S=>(∀k∈b,k<B)->B<=S.nx->Xf P Y n B V lg l (λU S=>rT P Y rd n Q K .normal U S) U S
end
section
variable{rd:Bool}{ex:Exit}{l:List QI}
theorem wpX.op(a:bD U.tm i.g=some true)(h:D P Y false i.q U S r S')(k:wpX P Y rd n Q (.bk false l K) (bW i.d U r) S'):wpX P Y rd n Q (.bk false (i::l) K) U S:=by exact lD.op a h k
def J8.congr{Mz:Array Oper}{a b:Nat->Dt×Option Je}:∀{L:List Nat}{U aE:AA}{S S':ah},(∀i∈L,a i=b i)->J8 P Y n Mz B a L U S aE S'->J8 P Y n Mz B b L U S aE S'|[],_,_,_,_,_,.nil ..=>.nil ..|i::d,_,_,_,_,c,.cons h t=>.cons I (t.congr λj e=>c j I)
theorem Xf.step{V:List (Nat×Nat)}{lg:List (List Nat×List Nat×Bool)}{d:Dt×Option Je}{α1:AA}{S1:ah}(q:d.2=none->d.1.ok)(r:∀Mz o f,Mz.drop lg.length=o::f->tG n o.dst=true->o.dst=i.d->res P.toTables o.op=some i.q->(∀b,bD U.tm i.g=some b->mu Mz U o=some b)->GSX P Y n Mz.toArray B lg.length d U S α1 S1)(k:Xf P Y n B V (lg++[Ff d]) l R α1 S1):Xf P Y n B V lg (i::l) R U S:=by intro Mz j m;let⟨o,f,p,s,t,u,v,w⟩:=uP (U:=U) j;let⟨x,y⟩:=BC p;let⟨a,aE,S',g,c,k4,k3⟩:=k Mz I m;simp only[ar_,be_]at g c k4;refine⟨λi=>if i=lg.length then d else a i,aE,S',?_,?_,?_,k3⟩;rw[aC_,cV_];refine .cons I (g.congr λi h=>?_);have:=(List.mem_range'_1.1 h).1;rw[if_neg X];rw[aC_,cV_,aF_];simp only[if_pos];have e:((List.range' (lg.length+1) l.length).map λi=>Ff (if i=lg.length then d else a i))=(List.range' (lg.length+1) l.length).map λi=>Ff (a i):=aQ_ λi h=>I;rw[e];rw[bn_]at c;exact c;grind
structure QFx(P:Program)(f:FuncId)(q:QC×List QR)(n:Nat):Prop where out:∃fn c,P.funcs[f]?=some fn/\fn.body=some c/\fn.ntmps=n/\Cc P.toTables fn.results.toList=some q.2/\tP P.toTables n c=some q.1/\gR P c=true/\∀(xs:Array Value)(w:World),(callFunc f xs).run P w=.ok (.enter f xs) w
def afV(T:Tables)(fn:Func):Option (QC×List QR):=match fn.body with
 |some c=>match tP T fn.ntmps c,Cc T fn.results.toList with|some q,some a=>some (q,a)|_,_=>none
 |none=>none
theorem QFx.of{f:FuncId}{q:QC×List QR}{fn:Func}{T:Tables}(e:P.funcs[f]?=some fn)(a:afV T fn=some q)(g:P.toTables=T)(h:fn.ntmps=n)(b:Lq P fn=true)(i:∀(xs:Array Value) (w:World),(callFunc f xs).run P w=.ok (.enter f xs) w):QFx P f q n:=by subst g;unfold afV at a;unfold Lq at b;cases d:fn.body with|none=>rw[d]at a;cases a|some c =>rw[d]at a b;simp only at a;split at a;rename_i q1 k l j;cases oJ_ a;exact⟨⟨fn,c,e,d,h,j,I,b,i⟩⟩;grind
end
section
variable{N:ah}
theorem aF.I6{f:FuncId}{args args':List AV}{b:ah}(l:∀k o,N.get k=some o->S.get k=some o)(c:S.nx<=S'.nx)(y:∀k o,S'.get k=some o->S.get k=some o/\N.get k=none)(d:iW N args args')(h:aF P Y f args' S' r b):aF P Y f args S r b:=by
 refine⟨h.1,λF m A g n w z q s=>?_⟩;let⟨B,C⟩:=q.I6 l c y;have E:nL (g.still N) w args' n:=by
  refine⟨s.1.trans d.len,λi a x t c=>?_⟩;have G:i<args.length:=by rw[d.len];exact(aA_.1 t).1
  have u:=av_ G;have J:St Y A g ⟨N.get,S.nx⟩ w:=q.forget (aa_ _) λj p K _=>l j p K;have L:=d.at i _ a u t;exact(L.mono (S:=N) (T:=⟨N.get,S.nx⟩) λ_ _ _ _ _ h=>h).rep J (s.2 i _ x u c)
 refine(h.2 F m A (g.still N) n w z C E).mono ?_;rintro e V⟨v,M,rfl,Q,R,k3⟩;exact⟨v,M,rfl,Q,R,B.trans k3⟩
end
structure Fr where
 t:Tr AV
 ds:List DE
inductive XR where|dn (ex:Exit) (F:Fr) (s:XS)|mr (cf:QF) (F:Fr) (s:XS)|no
abbrev Rec:=Bool->Nat->QF->Fr->XS->XR
structure Env where
 tab:Nat->Option ((QC×List QR)×Nat)ext:Nat->List AV->Option AV
 nat:Nat->List AV->Option Value
 cau:Nat->Option AV
 wm:Nat->Bool
 kok:Nat->Value->Bool
 keq:Value->Value->Bool
 seq:Nat->Value->Value->Option Bool
 sp:Nat->Option Nat
 fx:Nat->Bool
section
variable{E:Env}{rc:Rec}
theorem ao.emp{g:Nat}{r:AV}(h:∀A c,ao P Y g [.v (.slice A 0 c)] r):ao P Y g [.sl ex []] r:=by
 have j:∀A c,∀a∈[AV.v (.slice A 0 c)],Pure a:=λA c a d=>by simp only[ak_]at d;subst d;exact .v
 refine⟨(h none 0).1,ah.none_,((h none 0).QJ (j _ _) ah.none_).1,λF m A g b w n o k=>?_⟩;have p:b.size=1:=k.1;obtain⟨v,rfl⟩:∃v,b=#[v]:=by let⟨l⟩:=b;match l,p with|[x],_=>exact⟨x,rfl⟩
 have q:=k.2 0 _ v rfl rfl;let⟨B,c,e,_,_⟩:=vu q;subst e;refine((h B c).QJ (j _ _) ah.none_).2 F m A g _ w n o ⟨rfl,λi a x d f=>?_⟩;match i,d,f with|0,d,f =>cases oJ_ d;cases oJ_ f;exact .v
end
section
attribute [local irreducible] ao aF D H
def Xg:=aD func164 call164
def He:List Nat:=[0,2,4]
def aqn:=aD func327 call327
def alL:List Nat:=[3,0,2,1]
def aqo:=aD func306 call306
def Xh:List Nat:=[4,0,6,5,1,3,11]
def aqp:=aD func267 call267
def Xi:List Nat:=[3,4,8,0,1,9,6,18,5,20]
def afW:=aD func234 call234
def kU:List Nat:=[5,11,6,4,1,10,12,0]
def aqq:=aD func171 call171
def alM:List Nat:=[3,4,1,0]
def Vv{sz:Nat}(l:List Tm):kH B (.arr sz (O.h (List.map (ld O)) l) 0 ex):=kG λx _ a b=>ue x a b
theorem adm(l:List Tm):∀row∈O.h (List.map (ld O)) l,∀a∈row,Pure a:=by rw[O.eq];intro row b a c;obtain⟨x,_,rfl⟩:=aB_.1 b;exact ue x a c
theorem Xj(A:Option Addr)(c:Nat):ab Y 164 [.v (.slice A 0 c)] (.sl true []):=by cases A with|none =>refine st Xg He (.sl λr h=>I) ?_;refine H.op rfl (D.nil (b:=true) rfl rfl) ?_;refine Z He ?_;refine fq ?_;exact .refl _|some A =>refine st Xg He (.sl λr h=>I) ?_;refine H.op rfl (D.nil (b:=false) rfl rfl) ?_;refine Z He ?_;refine H.op rfl (D.O0 rfl rfl) ?_;refine Z He ?_;refine fq ?_;exact .refl _
theorem adn:ab Y 164 [tl O []] (tl O []):=by
 have h:ab Y 164 [tl O []] (.sl true []):=by rw[tl,bF];exact ao.emp Xj
 exact ao.fz h (λS=>MO) (c9 _)
theorem ado(x:Tm)(l:List Tm)(c:(x::l).length<=100000000000):aF prog Y 164 [tl O (x::l)] (aw [] 0) (.gr 0 4 (x::l).length) (aw [(0,.arr 4 (O.h (List.map (ld O)) (x::l)) 0 false)] 1):=by
 let⟨R,a⟩:=aq (x::l);have d:F5 (aY O (ld O) false R)=some false:=by rw[a,bF];rfl
 rw[<-a]at c⊢;rw[<-R9];refine sc 0 1 Xg ?_;refine Z He ?_;refine og He (D.nil d rfl) ?_;refine H.su (f:=ld O) (ys:=R) rfl rfl rfl (λ_=>rfl) X λh len e b=>?_;have b:len=R.length:=I;subst e;rw[<-b];refine Z He ?_;refine fq ?_;exact⟨[(0,0)],.jI rfl rfl,⟨.inl ⟨_,rfl,.same (Vv _)⟩,trivial⟩,rfl⟩
theorem ahS(x:Bd)(v:Int):ab Y 327 [bd O x,.ip [iv v]] (.v (.bool (x.v==v))):=by
 let⟨i,k,j,n,a⟩:=x;refine st aqn alL .v ?_;repeat' first|refine cg alL (λb=>?_) λb=>?_|refine fq ?_
 all_goals refine aL ?_;simp_all
theorem aqr(x:Bd)(v:Int):zE prog Y (.fn (.func 327) [] [.ip [iv v]]) [bd O x] (x.v==v):=⟨_,_,rfl,⟨uJ x,.ip λb a=>by cases ak_.1 a;exact .v,trivial⟩,ahS x v⟩
theorem ahT(b:List Bd)(v:Int)(m:b.length<=1099511627776):ab Y 306 [bf O b,iv v] (.aJ [tm O (gj b v).1,.v (.bool (gj b v).2)]):=by
 have f:Pure (.fn (.func 327) [] [.ip [iv v]]):=.fn (λa c=>I) λa c=>by cases ak_.1 c;exact .ip λb e=>by cases ak_.1 e;exact .v
 have g:=ai7 (Y:=Y) (O:=O) (λx=>x.v==v) b _ [] _ m f λx _=>aqr x v;have h:=DK (λx:Bd=>x.v==v) b 0;have n:=Cx (λx:Bd=>x.v==v) b 0;let⟨j,i⟩:=aq (dp (λx:Bd=>x.v==v) b 0);rw[<-i]at g h n;let⟨R,d⟩:=aq (gj b v);rw[<-d];unfold gj at d;clear i;refine st aqo Xh (.aJ λa c=>by simp only[ae_,aw_,or_false]at c;rcases c with rfl|rfl;exact bI _;exact .v) ?_;repeat' first|refine ig Xh (D.tI rfl g ⟨bC _,f,trivial⟩ .v ⟨.refl _,aH.fns trivial ⟨aH.box (cs:=[iv v]) (cs':=[iv v]) rfl ⟨.refl _,trivial⟩,trivial⟩,trivial⟩) λ_ _=>?_|refine cg Xh (λe=>?_) λe=>?_|refine fq ?_
 grind[zf,P2];let⟨q,⟨t,u,w,y,z⟩,A,p,r⟩:=h X;rw[r]at d;subst d;refine og Xh (D.ind rfl rfl (eZ (l:=b) (k:=q) X p) (ec λ_=>rfl)) ?_;refine fq ?_;exact aH.of_eq rfl
theorem Ol(a:List Tm)(g:a.length<=100000000000)(s:∀x∈a,ab Y 267 [bf O env,tm O x] (tm O (f x))):ab Y 234 [bf O env,tl O a] (tl O (a.map f)):=by cases a with
 |nil =>
  have c:=adn (Y:=Y) (O:=O);refine st afW kU (c9 _) ?_;repeat' first|refine H.op rfl (pl c) ?_;refine Z kU ?_|refine bq (λb=>?_) λb=>?_<;>(try simp only[bY]at b)<;>(first|exact dF b|refine Z kU ?_)|refine b8 λm d=>?_;(try rw[az]at d);refine Z kU ?_|refine cG λ_ _=>?_;refine Z kU ?_|refine gT λ_ _=>?_;refine Z kU ?_|refine H.str rfl (D.cat rfl rfl (by assumption)) λ_ _=>?_;refine Z kU ?_|refine xG kU ?_|refine rG kU ?_|refine fq ?_
  refine H.ic (σ:=Int) 0 0 [] (λp=>[(5,tl O []),(10,.v (.int .i64 m)),(11,.v (.int .i64 p))]) [] (λ_=>[]) (λp=>p=0) (λp=>0) 0 rfl rfl cq ?_;rintro i rfl;refine Z kU ?_;repeat' first|refine bq (λb=>?_) λb=>?_<;>(try simp only[bY]at b)<;>(first|exact dF b|refine Z kU ?_)|refine b8 λm d=>?_;(try rw[az]at d);refine Z kU ?_|refine cG λ_ _=>?_;refine Z kU ?_|refine gT λ_ _=>?_;refine Z kU ?_|refine H.str rfl (D.cat rfl rfl (by assumption)) λ_ _=>?_;refine Z kU ?_|refine xG kU ?_|refine rG kU ?_|refine fq ?_
  all_goals first|exfalso;simp only[bg_]at d;omega|exact .refl _
 |cons t u =>have c:=ado (Y:=Y) (O:=O) t u g;let⟨a,v⟩:=aq (t::u);rw[<-v]at c g s⊢;clear v;let⟨R,E⟩:=aq (a.map f);rw[<-E];let⟨F,G⟩:=aq a.length;rw[<-G]at c;refine st afW kU (c9 _) ?_;refine H.op rfl (D.mo [] [(0,some (.arr 4 (O.h (List.map (ld O)) a) 0 false))] c rfl ⟨.pure (c9 _),trivial⟩ (.gr rfl) trivial ⟨⟨0,_,rfl,rfl,.pure (adm _)⟩,trivial⟩) ?_;refine Z kU ?_;refine H.int rfl (D.nt rfl) λm d=>?_;refine Z kU ?_;refine cr (τ:=List Tm) 1 1 [] (λp=>[(0,bf O env),(5,.gr 0 4 F),(10,.v (.int .i64 m)),(11,.v (.int .i64 p.1))]) [] (λp=>[(0,.arr 4 (O.h (List.map (ld O)) p.2) 0 false)]) a.length (λk p=>p.2.length=a.length/\p.2=(a.take k).map f++a.drop k) a ⟨rfl,aB⟩ ?_;rintro i k e j Q⟨J,w⟩;simp only at j J w;refine Z kU ?_;refine bq (λz=>?_) λz=>?_<;>(try simp only[bY]at z);rotate_left;refine Z kU ?_;refine xG kU ?_;refine H.fin (by conv=>lhs;cbv) ?_;have h:R=e:=I;rw[h,<-R9];exact aH.grow rfl X;let⟨x,A,K⟩:=aA (l:=a) (k:=k) X;have L:e[k]?=some x:=I;have S:k<a.length:=X;have B:=s x (aW A);let⟨n,C⟩:=aq (f x);rw[<-C]at B;let⟨T,V,W,xa⟩:=x;have o:=dv (O:=O) (f:=ld O) L;rw[ld]at o;simp only at o;refine Z kU ?_;refine H.op rfl (D.eT rfl rfl j X) ?_;refine H.op rfl (D.iQ rfl rfl o rfl) ?_;refine Z kU ?_;refine H.op rfl (pl B) ?_;refine Z kU ?_;refine H.op rfl (D.eT rfl rfl j X) ?_;refine H.JG (f:=ld O) (y:=n) rfl rfl rfl rfl rfl (λ_=>rfl) rfl X λq r=>?_;refine Z kU ?_;refine cG λM dU=>?_;refine Z kU ?_;refine H.bO (M,q) [] ⟨k+1,I,X,I,?_⟩ ?_ cz;simp only;have g:((a.take k).map f).length=k:=I;rw[r,w,da_ _ _ X,g,cx_,K,List.set_cons_zero,ca_,A,aZ_,C];simp;grind
theorem aan(q:env.length<=1099511627776)(n:Nat):∀x:Tm,cP x<=n->n<=100000000000->ab Y 267 [bf O env,tm O x] (tm O (iT env x)):=by induction n with|zero=>intro x h;have:=fL x;omega|succ n o =>
  intro x p r;rw[fL]at p;have s:=qn x.a;have j:=Ol (Y:=Y) (O:=O) (f:=iT env) (env:=env) x.a X λy t=>o y (by have:=lC y t;omega) X;have e:=ahT (Y:=Y) (O:=O) env x.i q;let⟨d,l⟩:=Oi env x.i;let⟨R,c⟩:=aq (iT env x);rw[<-c];let⟨k,i,m,a⟩:=x;rw[iT,uz]at c;simp only at j e d l c;clear o p r s;let⟨A,v⟩:=aq (a.map (iT env));rw[<-v]at j c;let⟨⟨⟨B,C,un,E⟩,b⟩,w⟩:∃L,L=gj env i:=⟨_,rfl⟩;rw[<-w]at e d l;simp only at e d l;refine st aqp Xi (bI _) ?_;repeat' first|apply a8 Xi j|refine H.op rfl (pl e) ?_;cases b<;>refine Z Xi ?_|refine cg Xi (λz=>?_) λz=>?_|refine fq ?_
  all_goals clear j e
  all_goals first
   |(have h:R=⟨k,i,m,A⟩:=by rw[c,if_neg X,if_pos X]
     rw[h];exact .refl _)
   |(have h:R=⟨k,i,m,a⟩:=by rw[c,if_neg X,if_neg X]
     rw[h];exact .refl _)|cases g:mQ env i with
     |none =>
      have h:R=⟨k,i,m,a⟩:=by rw[c,if_pos X,g]
      first|rw[h];exact .refl _|rw[g]at d;cases d
     |some u =>
      have h:R=u:=by rw[c,if_pos X,g]
      first|rw[h,<-l u g];exact .refl _|rw[g]at d;cases d
def adp(a:env.length<=1099511627776)(x:Tm)(b:cP x<=100000000000):ab Y 267 [bf O env,tm O x] (tm O (iT env x)):=aan a _ x (aa_ _) b
theorem Om(c:env.length<=1099511627776)(g:Gl)(e:bG g.a<=100000000000):ab Y 171 [bf O env,gl O g] (gl O (gD env g)):=by
 have b:=Ol (Y:=Y) (O:=O) (f:=iT env) (env:=env) g.a (by grind[qn]) λy h=>adp c y (by have:=lC y h;omega);rw[gD];let⟨o,n,a⟩:=g;simp only at b⊢;let⟨A,d⟩:=aq (a.map (iT env));rw[<-d]at b⊢;clear d e c;refine st aqq alM (iX _) ?_;repeat' first|apply a8 alM b|refine fq ?_
 exact .refl _
end
theorem zw9(w:World)(tS tR e:TypeId)(ht:P.underlying tS=some (.slice e))(size:Nat)(hz:∀w,(Go.sizeOf e).run P w=.ok size w)(a b:Addr)(la ca lb cb:Nat)(dh:a.block≠b.block)(tA tB:TypeId)(kA kB:Nat)(On:w.shape? a.block=some (tA,kA))(hsb:w.shape? b.block=some (tB,kB))(hkB:kB≠0)(hkA:kA≠0)(hfb:w.frozen? b=false)(hfe:w.frozen? {block:=b.block,off:=kB }=false):(Extern.SlicesOverlaps.overlaps #[tS,tS] #[tR] #[.slice (some a) la ca,.slice (some b) lb cb]).run P w=.ok (.bool false) w:=by
 have tz:(a.block !=b.block)=true:=I;have au7:(a.block==b.block)=false:=I;change Sem.run P (α:=Value) (do
  let some t:=(#[tS,tS]:Array TypeId)[0]?|stuck "slices.overlaps: no parameter types"
  let .slice elem <-underlying t|stuck "slices.overlaps: slice type expected"
  let size <-sizeOf elem match(some a:Option Addr),(some b:Option Addr) with|some a,some b =>if la=0\/lb=0\/size=0 then pure (Value.bool false)else if a.block !=b.block&&(<-frozen a)&&(<-frozen b) then unsupported .addressObserved else do
    if a.block !=b.block then do noView a;noView b if<-mayBeOne a b then return Value.bool ((<-choose (.extern "sameAddr.stringBytes" 2))==1)
    pure (Value.bool (a.block==b.block&&a.off<b.off+lb*size&&b.off<a.off+la*size))|_,_=>pure (Value.bool false)) w=_;by_cases h0:la=0\/lb=0\/size=0;simp[run_underlying ht,hz,h0];cases kB with|zero=>exact absurd rfl hkB|succ kB =>cases kA with|zero=>exact absurd rfl hkA|succ kA =>cases E5:w.frozen? a<;>cases yF:w.frozen? {block:=a.block,off:=kA+1 }<;>simp[run_underlying ht,hz,h0,tz,au7,frozen,noView,viewAt,mayBeOne,stringish,shape,Sem.run,On,hsb,hfb,hfe,E5,yF]
section
variable{rd:Bool}
theorem D.au8{f:QO}{aZ9:List QO}{g:FuncId}{k l d s:Nat}{r:AV}{t:List AV}{rows m:List (List AV)}{z:Bool}{B:Option Nat}(h:f.ev U.tm=.v (.func (.func g) #[] #[]))(i:aZ9.map (·.ev U.tm)=[.sl ex ((r::t)::rows),.ob k l d s B])(eX:S.get k=some (.arr l m 0 z))(h1:0<m.length)(h2:0<l)(hx:∀(w:World) (a b:Addr) (la ca lb cb:Nat) (tA tB:TypeId) (N C:Nat),a.block≠b.block->w.shape? a.block=some (tA,N)->w.shape? b.block=some (tB,C)->C≠0->N≠0->w.frozen? b=false->w.frozen? {block:=b.block,off:=C }=false->(callFunc g #[.slice (some a) la ca,.slice (some b) lb cb]).run P w=.ok (.value (.bool false)) w):D P Y false (.call f aZ9) U S (.v (.bool false)) S:=by
 refine D.run λn o hr=>?_;obtain⟨c,u,ho,hu,rfl,rfl⟩:=mC hr;rw[jL]at i;rw[aU]at h;refine bj.quiet λA E q w hS F=>?_;have Q:=F.ev u;rw[h]at Q;have e2:=cC Q;let⟨x,y,R⟩:∃x y,c.args.toList=[x,y]:=by generalize c.args.toList=L at i;match L,i with|[],h=>simp at h|[_],h=>simp at h|[x,y],_=>exact⟨x,y,rfl⟩|_::_::_::_,h=>simp at h
 rw[R]at i;simp only[aF_,aR_,List.cons.injEq,and_true]at i;have f1:=F.ev x;have f2:=F.ev y;rw[i.1]at f1;rw[i.2]at f2;let⟨T,e4,G,_⟩:=kp f2;let⟨_,_,p,J,j,r2,r3,r4,r5,r6,r7⟩:=hS.cY k _ eX G;generalize hv:q.eval x=v at f1;cases f1 with|sl hn hc hle hl mO vc =>
  rename_i b o sz V val;let⟨yF,W⟩:=mO 0 0 _ r rfl rfl;have hb:b≠E.ob k:=λe=>I;let⟨K,M,fzA,C8,FK⟩:∃cs ty fz,w.heap[b]?=some (.cells cs ty fz)/\cs.size≠0:=by unfold World.cell? at W;split at W;grind;grind
  have e5:c.args.map q.eval=#[.slice (some ⟨b,o,none⟩) ((r::t)::rows).length V,.slice (some ⟨E.ob k,d*l,none⟩) s T]:=by apply Array.toList_inj.1;rw[bU_,R];simp only[aF_,aR_,hv,e4]
  have FF:0<p.size:=by rw[r2];exact Nat.mul_pos X h2
  have Db:=hx w ⟨b,o,none⟩ ⟨E.ob k,d*l,none⟩ ((r::t)::rows).length V s T M J K.size p.size hb (by simp[World.shape?,C8]) (by simp[World.shape?,j]) X FK (by simp[World.frozen?,j]) (by simp[World.frozen?,j]);rw[aC_]at Db e5;refine⟨.bool false,?_,.v⟩;simp[execOp,ho,hu,e2,e5,Db,resolve,invoke,Deferred.ofValue]
end
section
attribute [local irreducible] ao aF D H
def Xk:=aD func337 call337
def eQ:List Nat:=[0,1,7,2,8,9,6,16,22,31,68]
def O_{sz:Nat}(l:List Bd):kH B (.arr sz (O.h (List.map (bR O)) l) 0 ex):=kG λx _ a b=>mG x a b
theorem afZ(l:List Bd):∀row∈O.h (List.map (bR O)) l,row.length=5/\row.all db=true:=by rw[O.eq];intro row a;obtain⟨x,_,rfl⟩:=aB_.1 a;exact⟨rfl,rfl⟩
theorem au9(w:World)(a b:Addr)(g i j k:Nat)(l m:TypeId)(d c:Nat)(h1:a.block≠b.block)(h2:w.shape? a.block=some (l,d))(h3:w.shape? b.block=some (m,c))(h4:c≠0)(f:d≠0)(h5:w.frozen? b=false)(h6:w.frozen? {block:=b.block,off:=c }=false):(callFunc 365 #[.slice (some a) g i,.slice (some b) j k]).run prog w=.ok (.value (.bool false)) w:=by rw[run_callFunc_extern func365 (by kernel_rfl) (by kernel_rfl) (by kernel_rfl) (e:=Extern.SlicesOverlaps.overlaps f365.params f365.resultTypes) (by kernel_rfl)];have h:=zw9 (P:=prog) w 28 4 102 underlying28 5 λw=>by kernel_rfl a b g i j k h1 l m d c h2 h3 h4 f h5 h6;have e:Extern.SlicesOverlaps.overlaps f365.params f365.resultTypes=Extern.SlicesOverlaps.overlaps #[28,28] #[4]:=rfl;rw[e];simp only[Sem.run_bind,h,Result.andThen_ok]
set_option maxHeartbeats 4000000 in theorem adr(e:List Bd)(y:Bd)(j:Nat)(hj:j<e.length)(hl:e.length<=10000000000):aF prog Y 337 [.gr 0 5 e.length,iv j,.sl true [bR O y]] (aw [(0,.arr 5 (O.h (List.map (bR O)) e) 0 false)] 1) (.gr 1 5 (e.length+1)) (aw [(1,.arr 5 (O.h (List.map (bR O)) (e.take j++[y]++e.drop j)) 0 false)] 2):=by
 refine aF.alx (k:=0) (rows:=O.h (List.map (bR O)) e) rfl X az.symm λc By N MS=>?_;rw[az]at N;let⟨b,p⟩:=aq (O.h (List.map (bR O)) e++By);have P:b.length=c:=by rw[p,ar_,az];exact N
 have J:b.take e.length=O.h (List.map (bR O)) e:=by rw[p,dW_ (by rw[az];exact aa_ _),aW_ (by rw[az];exact aa_ _)]
 have q:∀row∈b.take e.length,row.length=5/\row.all db=true:=by rw[J];exact afZ e
 have x:∀row∈b,row.length=5:=by rw[p];intro row a;rcases aN_.1 a with a|a;exact(afZ e row a).1;exact(MS row a).1
 rw[<-p];let⟨n,hn⟩:=aq e.length;rw[<-hn]at hj hl N J q⊢;let⟨i,u⟩:∃i:Int,i=j:=⟨_,rfl⟩;rw[<-u];let⟨W,Q⟩:=aq (e.take j++[y]++e.drop j);rw[<-Q];have S:=au9;refine sc 1 2 Xk ?_;clear p MS;refine Z eQ ?_;refine H.Dd rfl rfl rfl rfl u X λo1 l1 c1 _ _ _=>?_;refine Z eQ ?_;refine b8 λm1 z=>?_;have z:m1=1:=z;refine Z eQ ?_;refine cn (λf=>?_) λf=>?_;omega;clear f;refine Z eQ ?_;refine lg eQ λn2 eC=>?_;refine cn (λf=>?_) λf=>?_;omega;clear f;refine Z eQ ?_;refine ag eQ λs hs=>?_;refine og eQ (D.cap rfl) ?_;refine cn (λf=>?_) λf=>?_;have f:s>(c:Int):=f;have NR:c=n:=X;refine Z eQ ?_;refine H.aqe rfl rfl rfl rfl u X ?_;refine Z eQ ?_;refine ag eQ λs2 ux=>?_;refine ag eQ λs3 UZ=>?_;refine H.Xd (m:=n+1-j) rfl rfl rfl rfl X X X X X rfl aC λg eO o ml=>?_;refine Z eQ ?_;refine H.aaj rfl rfl rfl rfl u X λo2 T zR dK=>?_;refine Z eQ ?_;have v:g.length=n+1:=by rw[o,ar_,bb_,bh_,bA_];omega
 refine H.MT rfl rfl rfl jk bY_ X (aE_ _) λrow a=>by cases ak_.1 a;rfl λrow a=>by cases ak_.1 (bB_ a);rfl λh c3 d=>?_;have d:h=g.take o2++[bR O y].take (Nat.min [bR O y].length T)++g.drop (o2+Nat.min [bR O y].length T):=d;rw[show Nat.min [bR O y].length T=1 from cI_ (by rw[dK,ml];simp;omega),show List.take 1 [bR O y]=[bR O y] from rfl]at d;have V:h.length=n+1:=by rw[d,ar_,ar_,bb_,bh_,v,be_];omega
 refine Z eQ ?_;refine ag eQ λs4 hs4=>?_;refine H.aaj (i:=j+1) rfl rfl rfl rfl X X λo3 l3 A Sq=>?_;refine Z eQ ?_;refine H.Dd (i:=j) rfl rfl rfl rfl u X λo4 B c4 w C Zr=>?_;refine Z eQ ?_;have F:b.take n=b:=aW_ X;refine H.MT rfl rfl rfl (Of rfl X) (by rw[bb_,bh_];omega) X (aE_ _) (λrow a=>x row (cw_ (bB_ a))) (λrow a=>(q row (by rw[F];exact cw_ (bB_ (bB_ a)))).2) λK c5 G=>?_;cases(X:eO=n+1);have p:b=O.h (List.map (bR O)) e:=F.symm.trans J;have e4:(b.drop o4).take B=b.drop j:=by rw[w,C,aH_];exact aW_ (by rw[bh_];omega)
 rw[e4,show Nat.min (b.drop j).length l3=(b.drop j).length from cI_ (by rw[bh_];omega),aW_ (l:=b.drop j) (aa_ _),bh_,A,aH_]at G;have L:=ahN (E:=b) (R2:=g) (R3:=h) (R4:=K) (r:=bR O y) X (by rw[bC_]at o;rw[P,NR];exact o) (by rw[zR,aH_]at d;exact d) G;have B9:K.take (n+1)=O.h (List.map (bR O)) W:=by rw[L,aW_ (by rw[ar_,ar_,bb_,bh_,be_];omega),p,Q];simp only[O.eq,aZ_,cX_,du_,aF_,aR_]
 have ava:n+1<=K.length:=by rw[L,ar_,ar_,bb_,bh_,be_];omega
 refine H.xE eQ 4 (by conv=>lhs;cbv) ?_;refine H.Cz (Cv.alw (t:=9) rfl rfl ava) ?_;rw[B9];refine Z eQ ?_;refine fq ?_;exact⟨[(1,1)],.jI rfl rfl,⟨.inl ⟨_,rfl,.same (O_ W)⟩,trivial⟩,rfl⟩;have f:¬s>(c:Int):=f;have NR:n+1<=c:=X;refine Z eQ ?_;refine ag eQ λs5 hs5=>?_;refine H.aqf (i:=n+1) rfl rfl rfl rfl X X X ?_;refine Z eQ ?_;refine ag eQ λs6 hs6=>?_;refine H.Dd (i:=j+1) rfl rfl rfl rfl X X λo3 l3 c3 A Sq zZ=>?_;refine Z eQ ?_;refine og eQ (D.au8 rfl rfl rfl X aC S) ?_;refine ag eQ λs7 hs7=>?_;refine H.Dd (i:=j+1) rfl rfl rfl rfl X X λo4 B c4 w C Zr=>?_;refine Z eQ ?_;refine H.Dd (i:=j) rfl rfl rfl rfl u X λo5 M c5 ho5 hl5 hc5=>?_;refine Z eQ ?_;have z:Nat.min ((b.drop o5).take M).length B=n-j:=by rw[show Nat.min ((b.drop o5).take M).length B=B from Nat.min_eq_right (by rw[bb_,bh_];omega)];omega
 have pv:((b.drop o5).take M).take (n-j)=(b.drop j).take (n-j):=by rw[List.take_take,ho5,aH_,show min (n-j) M=n-j from cI_ X]
 refine H.MT rfl rfl rfl (Of rfl X) (by rw[bb_,bh_];omega) X (aE_ _) (λrow a=>x row (cw_ (bB_ a))) (λrow a=>(q row (by rw[z,pv,<-List.drop_take]at a;exact cw_ a)).2) λg c6 o=>?_;rw[z,pv]at o;have v:g.length=c:=by rw[o,ar_,ar_,bb_,bb_,bh_,bh_];omega
 refine Z eQ ?_;refine H.Dd (i:=j) rfl rfl rfl rfl u X λo7 l7 c7 ho7 hl7 hc7=>?_;refine Z eQ ?_;refine H.MT rfl rfl rfl jk bY_ X (aE_ _) λrow a=>by cases ak_.1 a;rfl λrow a=>by cases ak_.1 (bB_ a);rfl λh c8 d=>?_;have d:h=g.take o7++[bR O y].take (Nat.min [bR O y].length l7)++g.drop (o7+Nat.min [bR O y].length l7):=d;rw[show Nat.min [bR O y].length l7=1 from cI_ (by rw[hl7];simp;omega),show List.take 1 [bR O y]=[bR O y] from rfl]at d;have V:h.length=c:=by rw[d,ar_,ar_,bb_,bh_,v,be_];omega
 have L:=adg (R:=b) (R2:=g) (R3:=h) (n:=n) (r:=bR O y) hj X (by rw[w,aH_]at o;exact o) (by rw[ho7,aH_]at d;exact d);have B9:h.take (n+1)=O.h (List.map (bR O)) W:=by rw[L,J,Q];simp only[O.eq,aZ_,cX_,du_,aF_,aR_]
 refine H.xE eQ 4 (by conv=>lhs;cbv) ?_;refine H.Cz (Cv.aqd (t:=0) rfl rfl X X) ?_;rw[B9];refine Z eQ ?_;refine fq ?_;exact⟨[(1,0)],.jI rfl rfl,⟨.inl ⟨_,rfl,.same (O_ W)⟩,trivial⟩,rfl⟩
end
theorem adt(e:List Bd)(y:Bd)(h0:0<e.length)(j:e.length<=10000000000):aF prog Y 337 [.gr 0 5 e.length,iv e.length,.sl true [bR O y]] (aw [(0,.arr 5 (O.h (List.map (bR O)) e) 0 false)] 1) (.gr 1 5 (e.length+1)) (aw [(1,.arr 5 (O.h (List.map (bR O)) (e++[y])) 0 false)] 2):=by let⟨n,b⟩:=aq e.length;rw[<-b]at h0 j⊢;let⟨i,c⟩:∃i:Int,i=n:=⟨_,rfl⟩;rw[<-c];let⟨W,d⟩:=aq (e++[y]);rw[<-d];refine sc 1 2 Xk ?_;refine Z eQ ?_;refine og eQ (D.au0 (i:=n) rfl rfl rfl c (aa_ _) h0) ?_;refine b8 λk g=>?_;have g:k=1:=g;refine Z eQ ?_;refine cn (λa=>?_) λa=>?_;grind;clear a;refine Z eQ ?_;refine ig eQ (D.nt rfl) λp q=>?_;refine cn (λa=>?_) λa=>?_;rotate_left;grind;clear a;refine Z eQ ?_;refine H.yd (f:=bR O) (ys:=[y]) rfl rfl rfl b (λ_=>rfl) (by rw[bF];rfl) (λ_=>rfl) (λ_=>rfl) I λs l h m=>?_;rw[<-d]at h;have o:l=n+1:=I;subst h o;clear m;refine Z eQ ?_;refine fq ?_;exact⟨[(1,1)],.jI rfl rfl,⟨.inl ⟨_,rfl,.same (O_ _)⟩,trivial⟩,rfl⟩
theorem adu(y:Bd):aF prog Y 337 [.sl true [],iv 0,.sl true [bR O y]] (aw [] 0) (.gr 0 5 1) (aw [(0,.arr 5 (O.h (List.map (bR O)) [y]) 0 false)] 1):=by let⟨i,d⟩:∃i:Int,i=0:=⟨_,rfl⟩;rw[<-d];refine sc 0 1 Xk ?_;refine Z eQ ?_;refine og eQ (D.aco (l:=i) (h:=0) rfl rfl rfl (λrow o=>I) X X aC) ?_;refine b8 λe b=>?_;have b:e=1:=b;refine Z eQ ?_;refine cn (λa=>?_) λa=>?_;grind;clear a;refine Z eQ ?_;refine b8 λg c=>?_;have c:g=0:=c;refine Z eQ ?_;refine cn (λa=>?_) λa=>?_;rotate_left;grind;clear a;refine Z eQ ?_;refine H.su (O:=O) (f:=bR O) (ys:=[y]) rfl rfl (by rw[bF];rfl) (λ_=>rfl) I λq j k m=>?_;have n:j=1:=I;rw[<-k];subst n;clear m;refine Z eQ ?_;refine fq ?_;exact⟨[(0,0)],.jI rfl rfl,⟨.inl ⟨_,rfl,.same (O_ _)⟩,trivial⟩,rfl⟩
section
attribute [local irreducible] ao aF D H
def af0:=aD func324 call324
def qp:List Nat:=[0,1,4,6,16]
theorem ahU(n:Int)(h0:0<n)(h1:n<=100000000000):aF prog Y 324 [.sl true [],iv n] (aw [] 0) (.gr 0 8 0) (aw [(0,.arr 8 (O.h (List.map (De O)) []) 0 false)] 1):=by refine sc 0 1 af0 ?_;refine Z qp ?_;refine cn (λf=>?_) λf=>?_;grind;refine Z qp ?_;refine ig qp (D.cap (m:=0) rfl) λc i=>?_;refine b8 λq b=>?_;have b:q=0:=b;refine Z qp ?_;refine ag qp λd l=>?_;refine ag qp λe o=>?_;refine cn (λg=>?_) λg=>?_;rotate_left;grind;refine Z qp ?_;refine og qp (D.cap (m:=0) rfl) ?_;refine og qp (D.auW rfl rfl) ?_;refine og qp (D.aqa rfl rfl X X aC) ?_;refine og qp (D.len rfl) ?_;refine H.op rfl (D.acp (j:=0) rfl rfl rfl aC X) ?_;refine H.Cz (Cv.alz (O:=O) (De O) (t:=25) (k:=0) rfl rfl) ?_;refine Z qp ?_;refine fq ?_;exact⟨[(0,0)],.jI rfl rfl,⟨.inl ⟨_,rfl,.same (kG λx _ a h=>As x a h)⟩,trivial⟩,rfl⟩
def aqt:=aD func309 call309
def alQ:List Nat:=[3,0,2,1]
def aqu:=aD func271 call271
def alR:List Nat:=[4,1,0,3]
def aqv:=aD func146 call146
def Au:List Nat:=[12,7,6,2,11,13,10,0,1,9]
def aqw:=aD func209 call209
def Cd:List Nat:=[5,6,1,8,11,0,7,2,12,19,9,46,52,57]
def avb:=aD func79 call79
def g79:List Nat:=[5,6,2,0,1]
theorem ahV(x:Bd)(v:Int):ab Y 309 [bd O x,.ip [iv v]] (.v (.bool (x.v==v))):=by
 let⟨i,k,j,n,a⟩:=x;refine st aqt alQ .v ?_;repeat' first|refine cg alQ (λb=>?_) λb=>?_|refine fq ?_
 all_goals refine aL ?_;simp_all
theorem Vw(b:List Bd)(v:Int)(h:b.length<=1099511627776):ab Y 271 [bf O b,iv v] (iv (wK b v)):=by
 have d:Pure (.fn (.func 309) [] [.ip [iv v]]):=.fn (λa e=>I) λa e=>by cases ak_.1 e;exact .ip λb c=>by cases ak_.1 c;exact .v
 have f:=PY (Y:=Y) (O:=O) (λx=>x.v==v) b _ [] _ h d λx _=>⟨_,_,rfl,⟨uJ x,.ip λb c=>by cases ak_.1 c;exact .v,trivial⟩,ahV x v⟩;unfold wK;let⟨j,g⟩:=aq (dp (λx:Bd=>x.v==v) b 0);rw[<-g]at f⊢;clear g;refine st aqu alR .v ?_;repeat' first|refine ig alR (D.tI rfl f ⟨bC _,d,trivial⟩ .v ⟨.refl _,aH.fns trivial ⟨aH.box (cs:=[iv v]) (cs':=[iv v]) rfl ⟨.refl _,trivial⟩,trivial⟩,trivial⟩) λ_ _=>?_|refine fq ?_
 all_goals refine dx ?_;omega
theorem Jh(a:List Tm)(w:a.length<=100000000000)(o:∀x∈a,ab Y 209 [bf O env,iv fr,tm O x] (tm O (f x))):ab Y 146 [bf O env,iv fr,tl O a] (tl O (a.map f)):=by
 let⟨R,g⟩:=aq (a.map f);rw[<-g];refine st aqv Au (c9 _) ?_;refine lg Au λm y=>?_;refine cr (τ:=List Tm×Nat) 0 1 [] (λp=>[(0,bf O env),(1,.v (.int .i64 fr)),(7,.gr 0 4 p.2.2),(10,tl O a),(11,.v (.int .i64 m)),(12,.v (.int .i64 p.1))]) [] (λp=>[(0,.arr 4 (O.h (List.map (ld O)) p.2.1) 0 false)]) a.length (λk p=>R=p.2.1++(a.drop k).map f/\p.2.2=p.2.1.length/\p.2.1.length=k) ([],0) ⟨I,rfl,rfl⟩ ?_;rintro i k⟨A,len⟩h B⟨b,c,q⟩;simp only at h b c q;clear g;refine Z Au ?_;by_cases r:k<a.length
 ·let⟨x,j,s⟩:=aA r;have n:=o x (aW j);rw[s,aF_]at b;let⟨d,t⟩:=aq (f x);rw[<-t]at n b;let⟨C,E,F,G⟩:=x;repeat' first|refine og Au (D.ind rfl rfl (cD (l:=a) h j) cE) ?_|apply a8 Au n|refine H.app (x:=d) (f:=ld O) rfl rfl rfl c (λ_=>rfl) rfl rfl rfl rfl X λs' u J K=>?_;refine Z Au ?_|refine cg Au (λe=>?_) λe=>?_|refine ag Au λ_ _=>?_|refine xG Au ?_|refine fq ?_
  all_goals first|omega|refine H.bO (_,s',u) [(0,2)] ?_ ?_ (by exact⟨sq,rfl,⟨.inl ⟨_,rfl,.same (kG λx _ a v=>ue x a v)⟩,trivial⟩,rfl,rfl,rfl⟩);grind;simp only;omega
 ·skip;repeat' first|refine cg Au (λe=>?_) λe=>?_|refine xG Au ?_|refine fq ?_
  all_goals first|omega|rw[b,al_ X,aR_,aG_,<-R9];exact aH.grow rfl c
theorem adv(F:env.length<=1099511627776)(h0:0<=fr)(h1:fr<=1099511627776)(n:Nat):∀x:Tm,cP x<=n->n<=100000000000->td x->ab Y 209 [bf O env,iv fr,tm O x] (tm O (ly env fr x)):=by induction n with|zero=>intro x h;have:=fL x;omega|succ n v =>
  intro x w G o;rw[fL]at w;have J:=qn x.a;have d:=Jh (Y:=Y) (O:=O) (f:=ly env fr) (env:=env) (fr:=fr) x.a X λy z=>v y (by have:=lC y z;omega) X ((afQ o).mem y z);have p:=Vw (Y:=Y) (O:=O) env x.i F;have e:=D_ env x.i;have g:=Ib env x.i;let⟨j,B⟩:=aq (wK env x.i);rw[<-B]at p e g;have r:=afR o;have m:=W9 (Y:=Y) (O:=O) (fr+x.i);have t:=alh (Y:=Y) (O:=O) x.i;let⟨R,c⟩:=aq (ly env fr x);rw[<-c];let⟨k,i,u,a⟩:=x;rw[ly,pQ]at c;simp only at d p e g m t c r;clear v w G o B J;let⟨A,K⟩:=aq (a.map (ly env fr));rw[<-K]at d c;have C:=ali (Y:=Y) (O:=O) u A;let⟨s,L⟩:=aq (fr+i);rw[<-L]at m c;refine st aqw Cd (bI _) ?_;repeat' first|refine ig Cd (pl p) λ_ _=>?_|apply a8 Cd d|apply a8 Cd C|apply a8 Cd t|refine H.int rfl (D.yU (a:=i) (b:=fr) rfl rfl rfl X X) λE Q=>?_;obtain rfl:E=s:=X;refine Z Cd ?_;apply a8 Cd m|refine cg Cd (λM=>?_) λM=>?_|refine ag Cd λ_ _=>?_|refine fq ?_
  all_goals clear d t m C
  all_goals first
   |omega
   |(have h:R=⟨2,0,u,A⟩:=by rw[c,if_neg X,if_neg X,if_pos X]
     rw[h];exact .refl _)
   |(have h0:mQ env i=none:=g X;have h:R=vr E:=by rw[c,if_pos X,h0];rfl
     rw[h];exact .refl _)
   |(have h:R=W_ i:=by rw[c,if_neg X,if_pos X];rfl
     rw[h];exact .refl _)
   |(have h:R=⟨k,i,u,a⟩:=by rw[c,if_neg X,if_neg X,if_neg X]
     rw[h];exact .refl _)|skip
  let⟨q,⟨S,T,V,W,xa⟩,e1,N,P⟩:=e X;rw[if_pos X,P]at c;simp only at c;clear e g;refine og Cd (D.ind rfl rfl (eZ (l:=env) (k:=q) X N) (ec λ_=>rfl)) ?_;repeat' first|refine fq ?_
  all_goals rw[c];exact .refl _
def ahW(a:env.length<=1099511627776)(h0:0<=fr)(h1:fr<=1099511627776)(x:Tm)(b:cP x<=100000000000)(c:td x):ab Y 209 [bf O env,iv fr,tm O x] (tm O (ly env fr x)):=adv a h0 h1 _ x (aa_ _) b c
theorem Sr(c:env.length<=1099511627776)(h0:0<=fr)(h1:fr<=1099511627776)(g:Gl)(i:bG g.a<=100000000000)(d:pb g.a):ab Y 79 [bf O env,iv fr,gl O g] (gl O (gz env fr g)):=by
 have b:=Jh (Y:=Y) (O:=O) (f:=ly env fr) (env:=env) (fr:=fr) g.a (by grind[qn]) λy e=>ahW c h0 h1 y (by have:=lC y e;omega) (d.mem y e);rw[gz];let⟨o,n,a⟩:=g;simp only at b⊢;let⟨A,h⟩:=aq (a.map (ly env fr));rw[<-h]at b⊢;clear h d i c;refine st avb g79 (iX _) ?_;repeat' first|apply a8 g79 b|refine fq ?_
 exact .refl _
end
theorem ao.I6{g:Nat}{r a:AV}(h:ao P Y g l r)(b:∀S,aH S r a)(c:Pure a):ao P Y g l a:=by let⟨_,S',d⟩:=h;exact ao.zJ d (b _) c
section
attribute [local irreducible] ao aF D H
structure Frm where
 g:Gl
 id:Int
 occ:Int
def frR(O:Hd)(x:Frm):List AV:=[iv x.g.op,.v (.string x.g.n),tl O x.g.a,iv x.id,iv x.occ]
def YR(O:Hd)(l:List Frm):AV:=aY O (frR O) false l
end
theorem ov{e k:Int}(h:bw e k=0):e=0/\k=0:=by unfold bw at h;split at h;exact⟨by assumption,h⟩;exact absurd h (by assumption)
theorem wU{b:Bool}{e:Int}(a:e≠0)(h:cT b e=0):b=true:=by unfold cT at h;split at h;assumption;exact absurd h a
theorem aap:∀(vs:List Int)(n:Int)(k:Int->Int),z_ vs n k=0->∃m,k m=0/\n<=m/\m<=n+vs.length|[],n,k,h=>⟨n,h,bp_ _,aB⟩|v::vs,n,k,h=>by rw[z_]at h;split at h;let⟨m,a,b,c⟩:=aap vs _ k h;refine⟨m,a,?_,?_⟩;split at b<;>omega;rw[aC_];split at c<;>omega;cases h
mutual theorem aaq{v:Int}:∀t:Tm,eY t->(pc v t↔v∈eF t) |⟨k,i,n,a⟩,h=>by rw[eY]at h;rw[pc,eF];by_cases b:k=1;rw[if_pos b,if_pos b,ak_];exact eq_comm;rw[if_neg b]at h;rw[if_neg b,if_neg b];by_cases c:k=2;rw[if_pos c];exact Eu a h.1;rw[if_neg c,h.2.resolve_left c,jg];simp;theorem Eu{v:Int}:∀l:List Tm,fe l->(jg v l↔v∈aZ l)|[],h=>by rw[jg,aZ];simp|x::l,h=>by rw[fe]at h;rw[jg,aZ,aN_,aaq x h.1,Eu l h.2];end
theorem Ev{v:Int}{l:List Tm}(h:fe l):v∈varsOf l↔jg v l:=by unfold varsOf;rw[uK,Eu l h];simp
theorem sH{x:At}(h:ft x=true)(a:dS x.a):fe x.a/\lA x.a/\tL x.a/\pb x.a/\bG x.a<=200:=by unfold ft at h;rw[as_]at h;exact KX h.2 a
theorem sI{x:Gl}(h:de x=true)(a:dS x.a):fe x.a/\lA x.a/\tL x.a/\pb x.a/\bG x.a<=200:=by unfold de at h;split at h;exact sH (x:=⟨x.n,x.a⟩) h a;rw[as_]at h;exact KX h.2 a
theorem Oo{ds:List Dc}{r:Rl}(h:oT ds r=0):(CS r=true/\(∀x∈r.aQ,ft x=true)/\(∀x∈r.rem,ft x=true)/\(∀g∈r.guard,de g=true)/\∀g∈r.body,de g=true)/\(∃n,r.vars=n/\0<=n/\n<=(vw r++Bi r).length)/\∀v∈tr [r.guard],v∈vw r:=by unfold oT O3 xc at h;let⟨c,h⟩:=ov h;let⟨d,h⟩:=ov h;let⟨e,h⟩:=ov h;let⟨f,h⟩:=ov h;let⟨i,h⟩:=ov h;refine⟨⟨wU aC c,λx a=>wU aC (lO d x a),λx a=>wU aC (lO e x a),λx a=>wU aC (lO f x a),λx a=>wU aC (lO i x a)⟩,?_⟩;unfold w_ at h;let⟨m,h,j,o⟩:=aap _ _ _ h;let⟨b,h⟩:=ov h;have b:=wU aC b;rw[decide_eq_true_eq]at b;refine⟨⟨m,b,j,X⟩,λv k=>?_⟩;unfold D4 K3 w9 O2 H9 at h;let⟨_,h⟩:=ov h;let⟨_,h⟩:=ov h;let⟨_,h⟩:=ov h;let⟨_,h⟩:=ov h;let⟨_,h⟩:=ov h;let⟨_,h⟩:=ov h;let⟨_,h⟩:=ov h;let⟨l,_⟩:=ov h;have:=wU aC (lO l v k);simpa using this
theorem Lr{ds:List Dc}:∀(l:List Rl)(k:Nat),(vz ds l k).2=0->∀r∈l,oT ds r=0|[],k,h,r,a=>by cases a|x::l,k,h,r,a=>by rw[vz]at h;split at h;rename_i b;rcases ae_.1 a with rfl|a;exact b;exact Lr l _ h r a;rename_i b;exact absurd h b
theorem Xl{p:Pg}(h:(tv p).2=0):∀r∈p.rs,oT p.ds r=0:=by unfold tv at h;split at h;exact Lr _ _ h;rename_i a;exact absurd h a
end Go.Proofs.YtbdcmpknicjopaaGreat
