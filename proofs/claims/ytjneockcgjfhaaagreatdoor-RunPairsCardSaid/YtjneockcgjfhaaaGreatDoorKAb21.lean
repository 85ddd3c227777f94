/- (empty) -/
import Derived.Test.YtjneockcgjfhaaaGreatDoorKAb8
import Derived.Scope
/- Function values with first arguments, as data: kept in a map, called. Own framework. -/
set_option linter.all false
set_option maxRecDepth 100000
namespace Go.Abs
open Go
variable {P:Program} {sl:SL} {bx:Aa} {o:Oper} {ρ:Kf}
theorem F8g{S:Nat->Prop}{w:World}{β:Names}{cells:List D}{v:Value}(h:An S w β (.agg [.Aj cells 0]) v):C0 S w (.agg [.ptr cells]) v:=by
 cases h with
 |agg cs vs I L J =>
  match vs,I with
  |[u],_ =>
   have:=J 0 _ u rfl rfl;obtain⟨b,base,q⟩:=this.B9z;refine .agg _ _ rfl (by simp[D.one]) ?_;intro j d x hd E
   match j with
   |0 =>simp only[Md,B0]at hd E;subst hd;subst E;rw[q.v,Xh];exact .ptr _ b base q.inS q.one q.there q.rep
   |j+1=>grind
def F8b{S:Nat->Prop}{w:World}{β:Names}{cells:List D}{v:Value}(h:C0 S w (.agg [.ptr cells]) v):An S w β (.agg [.Aj cells 0]) v:=by
 cases h with
 |agg cs vs J Z O =>
  match vs,J with
  |[u],_ =>
   have W:=O 0 _ u rfl rfl;refine .agg _ _ rfl (by simp[SV.one]) ?_;intro j d x hd E
   match j with
   |0 =>
    simp only[Md,B0]at hd E;subst hd;subst E;cases W with
    |ptr _ b base V U I L=>exact .Aj cells 0 b base V U I L
   |j+1=>grind
def C4o{f:FuncId}{x:Operand}{cells:List D}(E:o.op=.makeFunc (.func f) #[x] #[])(I:ρ x=.agg [.Aj cells 0]):C1 P o ρ bx (.d (.fn f [.agg [.ptr cells]])) bx []:=by refine C1.E3 λC S w β a O L=>?_;have J:=L x (mC E);rw[I]at J;refine⟨.func (.func f) #[a.eval x] #[],by simp[execOp,E,Instr.makeFunc],.d _ _ (.fn f _ [a.eval x] rfl ?_)⟩;grind[F8g]
def E9d{f:FuncId}(J:Enters P f){fo:Operand}{args:Array Operand}{E2:Array TypeId}(I:o.op=.call { callee:=.value fo,args:=args,argTypes:=E2 }){a:Act}{vs:Array Value}{w:World}(L:a.eval fo=.func (.func f) vs #[]) :(execOp a.eval o).run P w=.ok (.enter f (vs++args.map a.eval)) w:=by obtain⟨fn,E,U,O⟩:=J;simp only[execOp,I,resolve,Deferred.ofValue,L,invoke,callFunc,Ii,L8,Hm,run_program,E,U,O,I5,Fm,Array.append_empty]
def C3o{f:FuncId}{fo:Operand}{args:List Operand}{E2:List TypeId}{cells:List D}{E:List SV}{r:SV}(hf:Ao sl fo=.d (.fn f [.agg [.ptr cells]]))(L:H6 [] (.agg [.Aj cells 0]::args.map (Ao sl))=some E)(hc:Ab P f E r)(hr:r.closed=true) :OpQ P sl bx (.call ⟨.value fo,args.toArray,E2.toArray⟩) r:=by
 intro o ho C S w β a Z ha;have V:=ha fo (mC ho);rw[hf]at V;have O:=V.Gq;generalize a0:a.eval fo=v at O;cases O with
 |fn _ _ vs h1 h2 =>
  match vs,h1 with
  |[u],_ =>
   have hu:=F8b (β:=β) (h2 0 _ u rfl rfl);have U:Bz S w β (.agg [.Aj cells 0]::args.map (Ao sl)) (u::args.map a.eval):=.cons hu (Bz.Yn _ λx hx=>ha x (mo ho (by grind[Op.operands,Call.operands])));have W:Inv ⟨w,S,λ_=>False,λ_ _=>False,C.G⟩ S w β []:=Z.begin Z.C3 (λ_ h=>h);obtain⟨g1,g2⟩:=W3 W (C9.refl S w) (by simp) L U;have J:=hc.2 ⟨w,S,λ_=>False,λ_ _=>False,C.G⟩ β _ W g1;refine Jk ?_;unfold Oper.wp;rw[E9d hc.1 ho a0,Am8];have I:(⟨[u]⟩:Array Value)++args.toArray.map a.eval=⟨u::args.map a.eval⟩:=by apply Lk;simp
   rw[I];refine J.mono ?_;rintro e w' ⟨v,S',β',rfl,hk,hv⟩;obtain⟨q1,q2⟩:=Z.back hk;have e':C9 S' w' (λb=>S b\/(S' b/\w.heap.size<=b)) w':=⟨λb hb=>by rcases hk.Ei b hb with h|h|h;grind;grind;grind,λ_ _=>rfl⟩;exact⟨v,_,β,rfl,q1,q2,(hv.ext e' (λ_ _=>rfl)).closed hr,λ_ _=>rfl⟩
variable {ik:IntKind}
def E0a{L:TypeId}(hs:P.underlying L=some (.int ik))(n:Int):∀(es:List MapEntry)(kvs:List (D × D))(i:Nat),es.length=kvs.length ->(∀(j:Nat) (e:MapEntry) (kv:D × D),es[j]?=some e->kvs[j]?=some kv->e.key=kv.1.kv/\En P L kv.1) ->∃r,Instr.findNow (.int ik) (.int ik n) es i=some r/\Found es i (Ea [.int ik n] kvs i) r kvs
 |[],[],i,_,_=>⟨none,by rfl,rfl⟩
 |[],_::_,_,h,_=>by grind
 |_::_,[],_,h,_=>by grind
 |e::es,kv::kvs,i,h,E=>by
  obtain⟨U,W⟩:=E 0 e kv rfl rfl;have str:∀{d:D},En P L d->∃s,d=.int ik s:=λ{d} hd=>by
   have f:=hd.formed;have l:=hd.lits;have k:=hd.isKey;cases d with
   |int kk s =>
    have hk:kk=ik:=by simp[D.kv,D.lit,D.lits,Lit.value,Program.keyLits,hs,Value.cells]at l;exact l.1.1
    grind
   |agg cs=>grind[D.kv,Value.formed]
   |str n=>simp[D.kv,D.lit,Lit.value,Program.keyLits,hs,Value.cells]at l
   |bool b=>simp[D.kv,D.lit,Lit.value,Program.keyLits,hs,Value.cells]at l
   |_=>simp[D.isKey,D.flatK]at k
  obtain⟨k,d⟩:=kv;obtain⟨t,rfl⟩:=str W;simp only[Ea];have I:Instr.sameNow (.int ik) (.int ik n) e.key=some (decide (n=t)):=by rw[U];simp only[D.kv,D.lit,Lit.value,Instr.sameNow,Ac,B0];rw[Am7];simp
  by_cases J:n=t
  .subst J;rw[A6 (show[Lit.int ik n]=(D.int ik n).lits from rfl)];exact⟨some (i,e.val),by simp[Instr.findNow,I],e,_,by omega,by simp,by simp;rfl,rfl⟩
  .rw[A3 (by simpa [D.lits,D.lit]using J)];obtain⟨r,g1,O⟩:=E0a hs n es kvs (i+1) (by grind) (λj e kv J a0=>E (j+1) e kv (by grind) (by grind));refine⟨r,by grind[Instr.findNow],?_⟩;generalize Ea [Lit.int ik n] kvs (i+1)=q at*;cases q with
   |none=>exact O
   |some jd =>
    obtain⟨j,d⟩:=jd;obtain⟨e',Z,q1,q2,q3,V⟩:=O;refine⟨e',Z,by omega,?_,?_,V⟩
    .grind
    grind
def E3b{E:TypeId}(hs:P.underlying E=some (.int ik))(I:Bool)(w:World)(n:Int):(Instr.checkKey I 10000 E (.int ik n)).run P w=.ok () w:=by rw[show(10000:Nat)=9999+1 from rfl,Instr.checkKey];simp[T8 hs]
def D7v{I:TypeId}(hs:P.underlying I=some (.int ik))(w:World)(n:Int)(es:List MapEntry)(kvs:List (D × D))(J:es.length=kvs.length)
  (E:∀(j:Nat) (e:MapEntry) (kv:D × D),es[j]?=some e->kvs[j]?=some kv->e.key=kv.1.kv/\En P I kv.1) :
  ∃r,(Instr.findKey I (.int ik n) es).run P w=.ok r w/\Found es 0 (Ea [.int ik n] kvs 0) r kvs:=by obtain⟨r,L,O⟩:=E0a hs n es kvs 0 J E;grind[MapKept.run_findKey]
def C3v{T kt et k:Nat}{m x y:Operand}(ho:o.op=.insert T m x y){kvs:List (D × D)}{kn:Int}{vd:D}(hm:ρ m=.mp k)(hb:(k,Aq.map kvs)∈bx)
  (hT:P.underlying T=some (.map kt et))(V:P.underlying kt=some (.int ik))(W:Ea [.int ik kn] kvs 0=none)(hx:ρ x=.d (.int ik kn))(Z:∀kv,kv∈kvs->En P kt kv.1)(hy:Nv (ρ y)=some vd) :
  C1 P o ρ bx (.tuple []) ((k,.map (kvs++[(.int ik kn,vd)]))::C5 k bx) []:=by
 intro C S w β a hi ha;have O:=ha m (mC ho);rw[hm]at O;have U:=ha x (mC ho);rw[hx]at U;have a7:=U.Gq;have a8:=B7a (ha y (mC ho)) hy;have a2:a.eval x=.int ik kn:=U.Ih;obtain⟨r,es,E,I,hh,a0,a1⟩:=hi.box k _ hb;have a5:=a0.1;generalize a3:a.eval m=mv at O;cases O with
 |mp _ b J =>
  rw[I]at J;cases J;obtain⟨q,hq,hf⟩:=D7v V w kn es.toList kvs (by omega) (B1j a5 (λr kv e h1 h2=>(a1 r kv e h1 h2).1) Z);have L:=E3b V false w kn;have a6:r<w.heap.size:=(hi.Bh k _ hb r I).2.1;rw[<-a2]at hq L;have a4:=W;rw[a4]at hf;simp only[Found]at hf;subst hf;obtain⟨h1,h2⟩:=C3n (kvs:=kvs++[(.int ik kn,vd)]) hi hb I a6 (es.push { key:=a.eval x,val:=a.eval y,born:=E }) (E+1) ⟨by grind,a0.2.push _ _⟩ (by grind);refine Jk ?_;unfold Oper.wp;rw[show(execOp a.eval o).run P w=.ok .skip { w with heap:=w.heap.setIfInBounds r (.map (es.push { key:=a.eval x,val:=a.eval y,born:=E }) (E+1)) } by simp[execOp,ho,a3,Instr.mapUpdate,T8 hT,Uv hh,L,hq,MapKept.run_setObj_map _ hh]];exact⟨undef,S,β,rfl,h1,h2,.tuple [] [] rfl (by simp),λ_ _=>rfl⟩
def H0i{T kt et:Nat}{m x:Operand}{ok:Bool}(V:o.op=.lookup T m x ok){kvs:List (D × D)}{kn:Int}{z:SV}(hm:IsMap bx (ρ m) kvs)
  (hT:P.underlying T=some (.map kt et))(Z:P.underlying kt=some (.int ik))(hx:ρ x=.d (.int ik kn))(a0:∀kv,kv∈kvs->En P kt kv.1)(hz:Z2 P et=some z) :
  C1 P o ρ bx (P8 ok (.int ik kn) kvs z) bx []:=by
 refine C1.E3 λC S w β a hi ha=>?_;have U:=ha x (mC V);rw[hx]at U;have a6:=U.Gq;obtain⟨r,es,a4,L,hh,a5,W⟩:=hm.rep hi (ha m (mC V));have a3:a.eval x=.int ik kn:=U.Ih;obtain⟨q,hq,hf⟩:=D7v Z w kn es.toList kvs (by omega) (B1j a5 (λr kv e h1 h2=>(W r kv e h1 h2).1) a0);have E:=E3b Z es.isEmpty w kn;rw[<-a3]at hq E;obtain⟨zv,a1,a2⟩:=E3i hz w;cases I:Ea [.int ik kn] kvs 0 with
 |none =>
  rw[I]at hf;simp only[Found]at hf;subst hf;have J:An S w β z zv:=by rw[a2];exact B3e S w β zv
  cases ok with
  |true =>refine⟨.tuple #[zv,.bool false],by simp[execOp,V,L,Instr.lookup,T8 hT,Uv hh,E,hq,a1],?_⟩;simp only[P8,M8,show(D.int ik kn).lits=[Lit.int ik kn] from rfl,I,Nb];exact .tuple _ _ rfl (Bz.cons J (Bz.cons (.d _ _ (.bool _)) .nil)).2
  |false =>refine⟨zv,by simp[execOp,V,L,Instr.lookup,T8 hT,Uv hh,E,hq,a1],?_⟩;simpa only[P8,M8,show(D.int ik kn).lits=[Lit.int ik kn] from rfl,I]using J
 |some jd =>
  obtain⟨j,d⟩:=jd;rw[I]at hf;obtain⟨e,k',_,g1,g2,rfl⟩:=hf;simp only[Qw,Aj8]at g1 g2;have O:An S w β (Y8 d) e.val:=D6r (W j (k',d) e g2 g1).2;cases ok with
  |true =>refine⟨.tuple #[e.val,.bool true],by simp[execOp,V,L,Instr.lookup,T8 hT,Uv hh,E,hq],?_⟩;simp only[P8,M8,show(D.int ik kn).lits=[Lit.int ik kn] from rfl,I,Ak5];exact .tuple _ _ rfl (Bz.cons O (Bz.cons (.d _ _ (.bool _)) .nil)).2
  |false =>refine⟨e.val,by simp[execOp,V,L,Instr.lookup,T8 hT,Uv hh,E,hq],?_⟩;simpa only[P8,M8,show(D.int ik kn).lits=[Lit.int ik kn] from rfl,I]using O
end Go.Abs
/- scopes through which no jump goes, labels -/
namespace Go.Abs
open Go
section
variable {P:Program} {n:Nat} {Q:Exit->SL->Aa->Prop} {sl:SL} {bx:Aa}
def G6k(Q:Exit->SL->Aa->Prop):Exit->SL->Aa->Prop
 |.goto _,_,_=>False
 |e,sl,bx=>Q e sl bx
def A0.scope{c:Code}(h:A0 none P n c (G6k Q) sl bx):A0 none P n (.scope c) Q sl bx:=by
 intro C S w β a hs;have E:=h C S w β a hs;rw[F8p,wpIn_wide]at E |-;refine wp_scope_straight (wp_mono E ?_);rintro e I w' ⟨sl',bx',S',β',q,r⟩;cases e with
 |goto l=>exact q.elim
 |_=>exact⟨sl',bx',S',β',q,r⟩
def A0.G2d{ro:Option Nat}{l:Nat}{y:Code}(h:A0 ro P n y Q sl bx):A0 ro P n (.seq (.label l) y) Q sl bx :=A0.seq λ_ S _ β _ hs=>wpIn_label ⟨sl,bx,S,β,h,hs⟩
end
end Go.Abs
/- (empty) -/
/- Methods bound to a record of several cells, kept in an array variable. Own framework. -/
namespace Go.Abs
open Go
variable {P:Program} {sl:SL} {bx:Aa} {o:Oper} {ρ:Kf}
variable {ro:Option Nat} {P:Program} {n:Nat} {Q:Exit->SL->Aa->Prop} {sl:SL} {bx:Aa}
end Go.Abs
/- Closures kept as data: made, called; variables that hold addresses, frozen. Own framework. -/
namespace Go.Abs
open Go
variable {P:Program} {sl:SL} {bx:Aa} {o:Oper} {ρ:Kf}
def Ab.ptr{f:FuncId}{c:List D}{args:List SV}{r:SV}(h:Ab P f (.Aj c 0::args) r):Ab P f (.d (.ptr c)::args) r:=by
 refine⟨h.1,λC β vs W E=>h.2 C β vs W ?_⟩;cases vs with
 |nil=>exact absurd E.1 (by simp)
 |cons v vs =>
  have V:=E.2 0 _ v rfl rfl;refine .cons ?_ ?_
  .have:=V.Gq;cases this with
   |ptr _ b base O L I J=>exact .Aj _ 0 b base O L I J
  exact⟨by have:=E.1;grind,λj c u U Z=>E.2 (j+1) c u U Z⟩
variable {ro:Option Nat} {n:Nat} {Q:Exit->SL->Aa->Prop}
end Go.Abs
/- the greater of two numbers; the address of an element of a package variable that is laid. Own framework. -/
namespace Go.Abs
open Go
variable {P:Program} {sl:SL} {bx:Aa}
def B2m{x y:Operand}{E2:Array TypeId}{m n:Int}(O:Ao sl x=.d (.int .i64 m))(U:Ao sl y=.d (.int .i64 n)) :OpQ P sl bx (.call ⟨.builtin .max,#[x,y],E2⟩) (.d (.int .i64 (if m<n then n else m))):=by intro o J;refine C1.E3 λC S w β a V L=>?_;have E:=L x (mC J);rw[O]at E;have E:=E.Ih;have I:=L y (mC J);rw[U]at I;have I:=I.Ih;refine⟨.int .i64 (if m<n then n else m),?_,.d _ _ (.int _ _)⟩;simp[execOp,J,resolve,invoke,builtin,Builtin.max_,Builtin.max2,E,I]
def B8j{T e len g j:Nat}{y:Operand}{ik:IntKind}{i:Int}{cells:List D}{cs:Array Value}(hy:Ao sl y=.d (.int ik i))(O:i=j)
  (hT:P.underlying T=some (.array len e))(hs:C4 P e=some 1)(h1:j<len)
  (J:∀sy ra,A2s sy ra g cs)(I:∀d,d∈cells->d.one=true)(W:cs.size=cells.length)
  (V:∀(S:Nat->Prop) (w:World) (j:Nat) (d:D) (v:Value),cells[j]?=some d->cs[j]?=some v->C0 S w d v) :
  OpQ P sl bx (.indexAddr T (.global g) y) (.Aj cells j):=by
 intro o U;subst O;refine C1.E3 λC S w β a O ha=>?_;have E:=(ha y (mo U (by grind[Op.operands])));rw[hy]at E;have E:=E.Ih;obtain⟨hS,ty,fr,Z⟩:=O.Dv g cs (J _ _);have L:∀k,w.cell? ⟨g,k,none⟩=cs[k]?:=λk=>by simp[World.cell?,Z]
 have hj:(0:Int)<=(j:Int)/\(j:Int)<(len:Int):=by omega
 refine⟨.pointer (some ⟨g,0+j,none⟩),?_,.Aj cells j g 0 hS I (λk hk=>?_) λk d v hd hv=>?_⟩;have hg:a.eval (.global g)=.pointer (some ⟨g,0,none⟩):=rfl;simp only[execOp,U,Instr.indexAt,hg,E,Ii,asIntOf,L8,Hm,underlying,run_program,hT,Instr.sureAddr,Qn hs];simp only[hj,and_self,Ac,Ii,Qn hs,Hm,L8,Addr.add,Hx,Nat.mul_one];grind;simp_all;grind
end Go.Abs
/- delete from a map of one's own. Own framework. -/
namespace Go.Abs
open Go
variable {P:Program} {sl:SL} {bx:Aa}
end Go.Abs
/- a drawn region with a slice built of one zero type (a constant aggregate) -/
namespace Go.Abs
open Go
variable {ro:Option Nat} {P:Program} {n:Nat} {Q:Exit->SL->Aa->Prop} {sl:SL} {bx:Aa}
abbrev D9t(rs:List (List D))(k:Nat):Qy:=⟨λoff=>.box k off,.d (.slice rs),.mp k⟩
def St.A8x{C:Ctx}{S:Nat->Prop}{w:World}{β:Names}{a:Act}(k:Nat){bc:Aq}{f:Qy}(hk:(k,bc)∈bx)
  (hf:∀(S:Nat->Prop) (w:World) (β:Names),Dj S w β (β k) bc->(∀b,(β k).base=some b->S b)->A9w S S w β k f)
  (hs:St C n S w β a sl bx):∃S',St C n S' w β a (M6 k f sl) (Ld k f (C5 k bx)):=by
 let S':Nat->Prop:=λb=>S b\/(β k).base=some b
 have e:C9 S w S' w:=⟨λ_ h=>.inl h,λ_ _=>rfl⟩;have E:=hs.inv;have a4:Dj S' w β (β k) bc:=(E.box k _ hk).ext e (λ_ _=>rfl) (λ_ _=>rfl);have a6:=hf S' w β a4 (λb hb=>.inr hb);have hr:A9w S' S' w β k f:=a6;have Z:∀{x:SV} {v:Value},An S w β x v->An S' w β (x.sub k f) v:=λhv=>(hv.ext e (λ_ _=>rfl)).sub hr (C9.refl _ _);refine⟨S',?_,hs.size,hs.defers.ext e,λt=>by rw[C0y];exact Z (hs.slot t)⟩;exact{
  Fh:=λb hb=>.inl (E.Fh b hb)
  Ei:=λb hb=>by
   rcases hb with hb|hb
   .exact E.Ei b hb
   .exact .inr (E.Bh k _ hk b hb).2.2
  C3:=λb hb=>by
   rcases hb with hb|hb
   .exact E.C3 b hb
   .exact(E.Bh k _ hk b hb).2.1
  kept:=E.kept
  os:=E.os
  tape:=E.tape
  output:=E.output
  size:=E.size
  box:=λj c U=>by
   obtain⟨x,I,rfl⟩:=Q4 U;obtain⟨a3,I⟩:=Ed.1 I;have:=E.box j x I;cases x with
   |cells cs =>obtain⟨b,ty,vs,h1,h2,h3⟩:=this;refine⟨b,ty,vs,h1,h2,?_⟩;rw[SV.A6e];refine h3.map (by simp) ?_;intro i x y v J W hv;simp only[Db,J,Ef,B0]at W;subst W;exact Z hv
   |rows sz rs=>exact Dj.ext (c:=.rows sz rs) this e (λ_ _=>rfl) (λ_ _=>rfl)
   |map kvs=>exact Dj.ext (c:=.map kvs) this e (λ_ _=>rfl) (λ_ _=>rfl)
   |iter kvs seen=>exact Dj.ext (c:=.iter kvs seen) this e (λ_ _=>rfl) (λ_ _=>rfl)
   |ghost Y st=>exact this
  Bh:=λj c U b hb=>by
   obtain⟨x,I,rfl⟩:=Q4 U;obtain⟨a3,I⟩:=Ed.1 I;obtain⟨h1,h2,h3⟩:=E.Bh j x I b hb;refine⟨λhs=>?_,h2,h3⟩;rcases hs with hs|hs
   .grind
   .exact a3 (E.inj j x k _ I hk b hb hs).1
  inj:=λj c j' c' U a2 b hb a7=>by
   obtain⟨x,I,rfl⟩:=Q4 U;obtain⟨x',J,rfl⟩:=Q4 a2;obtain⟨h1,h2⟩:=E.inj j x j' x' (Ed.1 I).2 (Ed.1 J).2 b hb a7
   grind
  Dv:=λb cs hv=>⟨.inl (E.Dv b cs hv).1,(E.Dv b cs hv).2⟩
  one:=λj Y st j' Y' st' U a2=>by
   obtain⟨x,I,O⟩:=Q4 U;obtain⟨x',J,a0⟩:=Q4 a2;have e1:x=.ghost Y st:=by cases x <;> simp only[Aq.sub,reduceCtorEq]at O;exact O.symm
   have e2:x'=.ghost Y' st':=by cases x' <;> simp only[Aq.sub,reduceCtorEq]at a0;exact a0.symm
   subst e1;subst e2;exact E.one j Y st j' Y' st' (Ed.1 I).2 (Ed.1 J).2
  Fp:=λj Y st U=>by
   obtain⟨x,I,O⟩:=Q4 U;have a5:x=.ghost Y st:=by cases x <;> simp only[Aq.sub,reduceCtorEq]at O;exact O.symm
   subst a5;obtain⟨h1,h2,h3,h4,B,h5,h6⟩:=E.Fp j Y st (Ed.1 I).2;have a8:=E.size;have hB:∀b,B b->¬S' b:=λb hb hs=>hs.elim (h6 b hb).1 ((h6 b hb).2.2.2 k _ hk);have a1:∀V c',(V,c')∈Ld k f (C5 k bx)->∃y,(V,y)∈bx:=λV c' L=>by obtain⟨y,W,_⟩:=Q4 L;exact⟨y,(Ed.1 W).2⟩
   refine⟨h1,h2,h3,λV c' L=>(a1 V c' L).elim λy W=>h4 V y W,B,h2.X3 st B S w _ w h5 ⟨λ_ h=>.inl h,λb hb=>hb.imp id λhb=>by grind,λb hb=>?_,hB,λ_ _=>rfl,rfl,rfl,rfl,Bq _⟩,λb hb=>⟨hB b hb,(h6 b hb).2.1,(h6 b hb).2.2.1,λV c' L=>(a1 V c' L).elim λy W=>(h6 b hb).2.2.2 V y W⟩⟩
   rcases hb with hb|hb
   .exact E.C3 b hb
   .exact(E.Bh k _ hk b hb).2.1
  fix:=E.fix }
def St.Jh{C:Ctx}{S:Nat->Prop}{w:World}{β:Names}{a:Act}(k:Nat){sz:Nat}{rs:List (List D)}(J:A8 bx k=some (.rows sz rs))(hs:St C n S w β a sl bx) :∃S',St C n S' w β a (M6 k (D9t rs k) sl) (Ld k (D9t rs k) (C5 k bx)) :=hs.A8x k (Hs J) λS w β I L=>⟨λoff v E=>E,λv E=>by cases E;exact .d _ _ (I.C0i L),λv E=>E,λ_=>rfl,rfl,rfl⟩
end Go.Abs
/- contracts with more than one possible result -/
namespace Go.Abs
open Go
variable {ro:Option Nat} {P:Program} {n:Nat} {Q:Exit->SL->Aa->Prop} {sl:SL} {bx:Aa} {o:Oper} {ρ:Kf}
def A6p(P:Program)(f:FuncId)(args:List SV)(R:SV->Prop):Prop :=Enters P f/\∀(C:Ctx) (β:Names) (vs:List Value),Inv C C.S0 C.w0 β []->Bz C.S0 C.w0 β args vs ->Calls P f ⟨vs⟩ C.w0 (λe w'=>∃r v S' β',R r/\e=.returned v/\Inv C S' w' β' []/\An S' w' β' r v)
def A6p.imp{f:FuncId}{args:List SV}{R E:SV->Prop}(h:A6p P f args R)(hr:∀r,R r->E r):A6p P f args E :=⟨h.1,λC β vs U I=>(h.2 C β vs U I).mono λ_ _ ⟨r,v,S',β',O,J,V,L⟩=>⟨r,v,S',β',hr r O,J,V,L⟩⟩
def E9s(P:Program)(fn:Func)(R:SV->Prop)(e:Exit)(sl:SL)(bx:Aa):Prop :=match e with
 |.normal| .ret=>∃xs r,Ui P bx sl fn.results.toList=some xs/\coerce bx (Xn xs)=some r/\R r
 |_=>False
def A6p.C0v{f:FuncId}{fn:Func}{c:Code}{args:List SV}{R:SV->Prop}(L:P.funcs[f]?=some fn)(E:fn.body=some c)(V:(fn.name == "runtime.NumGoroutine")=false)(Z:args.length<=fn.ntmps)
  (h:A0 none P fn.ntmps c (E9s P fn R) (Vh 0 args) []):A6p P f args R:=by
 refine⟨⟨fn,L,V,by grind⟩,?_⟩;intro C β vs hi J;refine C6c L E ?_;refine As4 (h C C.S0 C.w0 β _ (St.start hi J Z)) ?_;rintro e O w' ⟨sl',bx',S',β',q,hs⟩;have key:(∃xs r,Ui P bx' sl' fn.results.toList=some xs/\coerce bx' (Xn xs)=some r/\R r)->LeavesInM Fence.wide 0 P fn O.tmps (λe w'=>∃r v S' β',R r/\e=.returned v/\Inv C S' w' β' []/\An S' w' β' r v) O.defers .returning w':=by
  rintro⟨xs,r,U,h2,hR⟩;refine hs.leave λw' hs=>?_;obtain⟨v,W,h4⟩:=C1u (P:=P) hs U;refine⟨v,W,r,v,λb=>S' b\/∃k c,(k,c)∈bx'/\(β' k).base=some b,β',hR,rfl,?_,?_⟩
  .exact{
    Fh:=λb E=>.inl (hs.inv.Fh b E)
    Ei:=λb E=>by
     rcases E with E|⟨k,c,I,E⟩
     .exact hs.inv.Ei b E
     .exact .inr (hs.inv.Bh k c I b E).2.2
    C3:=λb E=>by
     rcases E with E|⟨k,c,I,E⟩
     .exact hs.inv.C3 b E
     .exact(hs.inv.Bh k c I b E).2.1
    kept:=hs.inv.kept
    os:=hs.inv.os
    tape:=hs.inv.tape
    output:=hs.inv.output
    size:=hs.inv.size
    box:=λk c I=>by grind
    Bh:=λk c I=>by grind
    inj:=λk c k' c' I=>by simp
    Dv:=λb cs J=>⟨.inl (hs.inv.Dv b cs J).1,(hs.inv.Dv b cs J).2⟩
    one:=λk Y st k' Y' st' I=>by simp
    Fp:=λk Y st I=>by grind
    fix:=hs.inv.fix }
  exact(A5z hs.inv ⟨λ_ h=>.inl h,λ_ _=>rfl⟩ (λk c I b E=>.inr ⟨k,c,I,E⟩) h2 h4).1
 cases e with
 |normal=>exact key q
 |ret=>exact key q
 |_=>exact q.elim
end Go.Abs
/- calls that are lent a variable and the own slice that it holds -/
namespace Go.Abs
open Go
variable {ro:Option Nat} {P:Program} {n:Nat} {Q:Exit->SL->Aa->Prop} {sl:SL} {bx:Aa} {o:Oper} {ρ:Kf}
end Go.Abs
