/- (empty) -/
import Derived.Test.YtieakoebgfiniaaGreatDoorZAb8
import Derived.Scope
/- Function values with first arguments, as data: kept in a map, called. Own framework. -/
set_option linter.all false
set_option maxRecDepth 100000
namespace Go.Abs
open Go
variable {P:Program} {sl:SL} {bx:Ab} {o:Oper} {ρ:Hz}
def G1v{f:FuncId}(U:Enters P f){fo:Operand}{args:Array Operand}{Da:Array TypeId}(I:o.op=.call { callee:=.value fo,args:=args,argTypes:=Da }){a:Act}{vs:Array Value}{w:World}(E:a.eval fo=.func (.func f) vs #[]) :
  (execOp a.eval o).run P w=.ok (.enter f (vs++args.map a.eval)) w:=by
 obtain⟨fn,J,L,O⟩:=U;simp only[execOp,I,resolve,Deferred.ofValue,E,invoke,callFunc,Hm,K8,H0,run_program,J,L,O,I0,Fx,Array.append_empty]
end Go.Abs
/- scopes through which no jump goes, labels -/
namespace Go.Abs
open Go
section
variable {P:Program} {n:Nat} {Q:Exit->SL->Ab->Prop} {sl:SL} {bx:Ab}
def H0k(Q:Exit->SL->Ab->Prop):Exit->SL->Ab->Prop
 |.goto _,_,_=>False
 |e,sl,bx=>Q e sl bx
def A0.scope{c:Code}(h:A0 none P n c (H0k Q) sl bx):A0 none P n (.scope c) Q sl bx:=by
 intro C S w β a hs;have E:=h C S w β a hs;rw[F5v,wpIn_wide]at E |-;refine wp_scope_straight (wp_mono E ?_);rintro e I w' ⟨sl',bx',S',β',q,r⟩;cases e with
 |goto l=>exact q.elim
 |_=>exact⟨sl',bx',S',β',q,r⟩
def A0.G9z{ro:Option Nat}{l:Nat}{y:Code}(h:A0 ro P n y Q sl bx):A0 ro P n (.seq (.label l) y) Q sl bx :=
 A0.seq λ_ S _ β _ hs=>wpIn_label ⟨sl,bx,S,β,h,hs⟩
end
end Go.Abs
/- (empty) -/
/- Methods bound to a record of several cells, kept in an array variable. Own framework. -/
namespace Go.Abs
open Go
variable {P:Program} {sl:SL} {bx:Ab} {o:Oper} {ρ:Hz}
def A2f:SV->D->Prop
 |.d x,y=>x=y/\x.one=true
 |.A9 cells off,y=>off=0/\y=.ptr cells
 |_,_=>False
variable {x:SV} {y:D}
def D2c(h:A2f x y):x.one=true/\y.one=true:=by
 cases x <;> simp[A2f]at h
 .obtain⟨rfl,E⟩:=h;exact⟨E,E⟩
 .obtain⟨_,rfl⟩:=h;exact⟨rfl,rfl⟩
variable {S:Nat->Prop} {w:World} {β:Names}
theorem D3i{v:Value}(h:A2f x y)(hr:Am S w β x v):Bu S w y v:=by
 cases x <;> simp[A2f]at h
 .obtain⟨rfl,_⟩:=h;exact hr.Ij
 .obtain⟨rfl,rfl⟩:=h;obtain⟨b,base,q⟩:=hr.B1u;rw[q.v,Ma];exact .ptr _ b base q.inS q.one q.there q.rep
theorem E1n{v:Value}(h:A2f x y)(hr:Bu S w y v):Am S w β x v:=by
 cases x <;> simp[A2f]at h
 .obtain⟨rfl,_⟩:=h;exact .d _ _ hr
 .obtain⟨rfl,rfl⟩:=h;cases hr with
  |ptr _ b base I L E J=>exact .A9 _ 0 b base I L E J
def Wv:List SV->List D->Prop
 |[],[]=>True
 |x::xs,y::ys=>A2f x y/\Wv xs ys
 |_,_=>False
def B3m:∀{xs:List SV} {ys:List D},Wv xs ys->xs.length=ys.length/\∀(j:Nat)(x:SV)(y:D),xs[j]?=some x->ys[j]?=some y->A2f x y
 |[],[],_=>⟨rfl,λj x y h=>by simp⟩
 |[],_::_,h=>h.elim
 |_::_,[],h=>h.elim
 |x::xs,y::ys,h=>by
  obtain⟨L,J⟩:=B3m h.2;refine⟨by grind,λj a b I E=>?_⟩
  match j with
  |0 =>simp only[Xg,B5]at I E;subst I;subst E;exact h.1
  |j+1 =>grind
variable {ys:List D}
theorem H1o{xs:List SV}{v:Value}(hd:Wv xs ys)(h:Am S w β (.agg xs) v):Bu S w (.agg ys) v:=by
 obtain⟨Z,J⟩:=B3m hd;cases h with
 |agg cs vs U V W =>
  refine .agg _ _ (by omega) ?_ ?_
  .intro y L;obtain⟨j,I⟩:=Sy.1 L;obtain⟨E,_⟩:=Az.1 I;exact(D2c (J j _ y (Bi (by omega:j<xs.length)) I)).2
  .intro j d x hd O;obtain⟨E,_⟩:=Az.1 hd;have I:=Bi (by omega:j<xs.length)
   grind[D3i]
def F7q{xs:List SV}{v:Value}(hd:Wv xs ys)(h:Bu S w (.agg ys) v):Am S w β (.agg xs) v:=by
 obtain⟨Z,J⟩:=B3m hd;cases h with
 |agg cs vs U V W =>
  refine .agg _ _ (by omega) ?_ ?_
  .intro y L;obtain⟨j,I⟩:=Sy.1 L;obtain⟨E,_⟩:=Az.1 I;exact(D2c (J j y _ I (Bi (by omega:j<ys.length)))).1
  .intro j d x hd O;obtain⟨E,_⟩:=Az.1 hd;have I:=Bi (by omega:j<ys.length)
   grind[E1n]
def G2h{f:FuncId}{x:Operand}{xs:List SV}(hd:Wv xs ys)(E:o.op=.makeFunc (.func f) #[x] #[])(I:ρ x=.agg xs):Br P o ρ bx (.d (.fn f [.agg ys])) bx []:=by
 refine Br.E4 λC S w β a O L=>?_;have J:=L x (mC E);rw[I]at J;refine⟨.func (.func f) #[a.eval x] #[],by simp[execOp,E,Instr.makeFunc],.d _ _ (.fn f _ [a.eval x] rfl ?_)⟩
 grind[H1o]
def G5t{f:FuncId}{fo:Operand}{args:List Operand}{Da:List TypeId}{xs:List SV}(hd:Wv xs ys){E:List SV}{r:SV}(hf:Ao sl fo=.d (.fn f [.agg ys]))(J:G7 [] (.agg xs::args.map (Ao sl))=some E)(hc:Aa P f E r)(hr:r.closed=true) :
  Z9 P sl bx (.call ⟨.value fo,args.toArray,Da.toArray⟩) r:=by
 intro o ho C S w β a Z ha;have W:=ha fo (mC ho);rw[hf]at W;have V:=W.Ij;generalize a0:a.eval fo=v at V;cases V with
 |fn _ _ vs h1 h2 =>
  match vs,h1 with
  |[u],_ =>
   have hu:=F7q (β:=β) hd (h2 0 _ u rfl rfl);have O:Bv S w β (.agg xs::args.map (Ao sl)) (u::args.map a.eval):=.cons hu (Bv.Vd _ λx hx=>ha x (mo ho (by grind[Op.operands,Call.operands])));have U:Inv ⟨w,S,λ_=>False,λ_ _=>False,C.G⟩ S w β []:=Z.begin Z.Bw (λ_ h=>h);obtain⟨g1,g2⟩:=Uf U (C4.refl S w) (by simp) J O;have L:=hc.2 ⟨w,S,λ_=>False,λ_ _=>False,C.G⟩ β _ U g1;refine I7 ?_;unfold Oper.wp;rw[G1v hc.1 ho a0,X2];have I:(⟨[u]⟩:Array Value)++args.toArray.map a.eval=⟨u::args.map a.eval⟩:=by apply Kt;simp
   rw[I];refine L.mono ?_;rintro e w' ⟨v,S',β',rfl,hk,hv⟩;obtain⟨q1,q2⟩:=Z.back hk;have e':C4 S' w' (λb=>S b\/(S' b/\w.heap.size<=b)) w':=⟨λb hb=>by
    rcases hk.Ej b hb with h|h|h
    .grind
    .grind
    grind,λ_ _=>rfl⟩
   exact⟨v,_,β,rfl,q1,q2,(hv.ext e' (λ_ _=>rfl)).closed hr,λ_ _=>rfl⟩
def F2j{T e len sz:Nat}{parts:Array (Nat × Operand)}(L:o.op=.build T parts){J:List SV}{ps:List (Nat × Nat)}{l:List (Nat × List SV)}{out:List SV}
  (hT:P.underlying T=some (.array len e))(hs:Be P e=some sz)(hz:Cb P T=some J)(Z:∀(i:Nat) (q:Nat × Nat),ps[i]?=some q->q=(i*sz,sz))(hl:Yd ρ parts.toList=some l)(U:A0g ps J l=some out)(V:out.all SV.one=true):Br P o ρ bx (.agg out) bx [] :=
 .E4 λ_ S w β a _ ha=>by
  obtain⟨z,E,rfl⟩:=B1o hz w;obtain⟨g1,W,_⟩:=C4w parts.toList l (λp Z=>ha p.2 (mo L (by grind[Op.operands]))) hl;obtain⟨O,q1,q2⟩:=C8s (λi=>some (i*sz,sz)) ps l (parts.toList.map λp=>(p.1,a.eval p.2)) _ out _ (C7f S w β z.cells.toList) (λi q hq=>by grind) g1 W U;refine⟨.agg ⟨O⟩,?_,Am.A7x q2 V⟩;have I:z.cells=⟨z.cells.toList⟩:=rfl;have:Instr.fill (λi=>some (i*sz,sz)) z.cells (Array.map (λx=>(x.fst,a.eval x.snd)) parts).toList=some ⟨O⟩:=by rw[I,Aq7];exact q1
  simp only[execOp,L,Instr.build,Hm,E,H0,underlying,run_program,hT,K8,Pb hs,this]
def G1n{T e len sz:Nat}{x y:Operand}(L:o.op=.indexAddr T x y){k off:Nat}{W:IntKind}{i:Int}(U:ρ x=.box k off)(Z:ρ y=.d (.int W i))
  (hT:P.underlying T=some (.array len e))(hs:Be P e=some sz)(h0:0<=i)(V:i<len):Br P o ρ bx (.box k (off+i.toNat*sz)) bx [] :=
 .E4 λ_ S w β a hi O=>by have J:=(O x (mo L (by grind[Op.operands])));rw[U]at J;have E:=(O y (mo L (by grind[Op.operands])));rw[Z]at E;have E:=E.J2;obtain⟨b,I,hv⟩:=J.A8i;refine⟨.pointer (some ⟨b,off+i.toNat*sz,none⟩),?_,.box _ _ _ I⟩;simp only[execOp,L,Instr.indexAt,hv,E,Hm,asIntOf,K8,H0,underlying,run_program,hT,Instr.sureAddr,Pb hs];simp only[h0,V,and_self,Af,Hm,Pb hs,H0,K8,Addr.add];simp
def G9p{T e len sz:Nat}{x y:Operand}{k off j q:Nat}{L:IntKind}{i:Int}(E:Ao sl x=.box k off)(O:Ao sl y=.d (.int L i))(V:i=j)
  (hT:P.underlying T=some (.array len e))(hs:Be P e=some sz)(U:j<len)(J:off+j*sz=q):Z9 P sl bx (.indexAddr T x y) (.box k q):=by
 intro o I;subst J;have h:=G1n (P:=P) (bx:=bx) (ρ:=Ao sl) I E O hT hs (by omega) (by omega)
 grind
variable {ro:Option Nat} {P:Program} {n:Nat} {Q:Exit->SL->Ab->Prop} {sl:SL} {bx:Ab}
end Go.Abs
/- Closures kept as data: made, called; variables that hold addresses, frozen. Own framework. -/
namespace Go.Abs
open Go
variable {P:Program} {sl:SL} {bx:Ab} {o:Oper} {ρ:Hz}
def Lz{f:FuncId}{caps:Array Operand}{xs:List SV}{ys:List D}(hd:Wv xs ys)(O:caps.toList.map (Ao sl)=xs):Z9 P sl bx (.makeFunc (.func f) #[] caps) (.d (.cl f ys)):=by
 intro o I;refine Br.E4 λC S w β a hi Z=>?_;obtain⟨hl,U⟩:=B3m hd;have J:caps.toList.length=xs.length:=by rw[<-O,Bc]
 refine⟨.func (.func f) #[] ⟨caps.toList.map a.eval⟩,by rw[show(⟨caps.toList.map a.eval⟩:Array Value)=caps.map a.eval by grind];simp[execOp,I,Instr.makeFunc],.d _ _ (.cl f _ (caps.toList.map a.eval) (by grind) ?_)⟩;intro j d v E L;rw[Df,Jv]at L;obtain⟨x,W,rfl⟩:=L;have V:=Z x (mo I (by grind[Op.operands]));exact D3i (U j _ d (by grind) E) V
def E9e{f:FuncId}{fo:Operand}{args:List Operand}{Da:List TypeId}{xs:List SV}{ys:List D}(hd:Wv xs ys){E:List SV}{r:SV}(hf:Ao sl fo=.d (.cl f ys))(J:G7 [] (args.map (Ao sl)++xs)=some E)(hc:Aa P f E r)(hr:r.closed=true) :
  Z9 P sl bx (.call ⟨.value fo,args.toArray,Da.toArray⟩) r:=by
 intro o ho C S w β a hi ha;have Z:=ha fo (mC ho);rw[hf]at Z;have W:=Z.Ij;generalize a0:a.eval fo=v at W;cases W with
 |cl _ _ vs h1 h2 =>
  obtain⟨hl,hg⟩:=B3m hd;have L:Bv S w β xs vs:=⟨by omega,λj c u hc hu=>by
   obtain⟨a1,_⟩:=Az.1 hc;have hj:ys[j]?=some ys[j]:=Bi (by omega)
   grind[E1n]⟩
  have U:Bv S w β (args.map (Ao sl)++xs) (args.map a.eval++vs):=(Bv.Vd _ λx hx=>ha x (mo ho (by grind[Op.operands,Call.operands]))).append L;have V:Inv ⟨w,S,λ_=>False,λ_ _=>False,C.G⟩ S w β []:=hi.begin hi.Bw (λ_ h=>h);obtain⟨g1,g2⟩:=Uf V (C4.refl S w) (by simp) J U;have O:=hc.2 ⟨w,S,λ_=>False,λ_ _=>False,C.G⟩ β _ V g1;refine I7 ?_;unfold Oper.wp;rw[Yh hc.1 ho a0,X2];have I:args.toArray.map a.eval++(⟨vs⟩:Array Value)=⟨args.map a.eval++vs⟩:=by apply Kt;simp
  rw[I];refine O.mono ?_;rintro e w' ⟨v,S',β',rfl,hk,hv⟩;obtain⟨q1,q2⟩:=hi.back hk;have e':C4 S' w' (λb=>S b\/(S' b/\w.heap.size<=b)) w':=⟨λb hb=>by
   rcases hk.Ej b hb with h|h|h
   .grind
   .grind
   grind,λ_ _=>rfl⟩
  exact⟨v,_,β,rfl,q1,q2,(hv.ext e' (λ_ _=>rfl)).closed hr,λ_ _=>rfl⟩
def I9(P:Program)(d:D)(args:List SV)(r:SV):Prop:=∃f xs ys E,d=.cl f ys/\Wv xs ys/\G7 [] (args++xs)=some E/\Aa P f E r
def Nd{d:D}{fo:Operand}{args:List Operand}{Da:List TypeId}{r:SV}(I:Ao sl fo=.d d)(h:I9 P d (args.map (Ao sl)) r)(hr:r.closed=true) :
  Z9 P sl bx (.call ⟨.value fo,args.toArray,Da.toArray⟩) r:=by
 obtain⟨f,xs,ys,E,rfl,J,L,O⟩:=h;exact E9e J I L O hr
def Aa.ptr{f:FuncId}{c:List D}{args:List SV}{r:SV}(h:Aa P f (.A9 c 0::args) r):Aa P f (.d (.ptr c)::args) r:=by
 refine⟨h.1,λC β vs J E=>h.2 C β vs J ?_⟩;cases vs with
 |nil=>exact absurd E.1 (by simp)
 |cons v vs =>
  have W:=E.2 0 _ v rfl rfl;refine .cons ?_ ?_
  .have:=W.Ij;cases this with
   |ptr _ b base U L V Z=>exact .A9 _ 0 b base U L V Z
  .exact⟨by have:=E.1;grind,λj c u O I=>E.2 (j+1) c u O I⟩
def A3u:List SV->Option (List D)
 |[]=>some []
 |.A9 c 0::r=>(A3u r).map (.ptr c::·)
 |.Bf f []::r=>(A3u r).map (.cl f []::·)
 |x::r=>match Tq [x]with
  |some [d]=>(A3u r).map (d::·)
  |_=>none
def E0o{S:Nat->Prop}{w:World}{β:Names}:∀(cs:List SV)(ds:List D)(vs:List Value),A3u cs=some ds->Bv S w β cs vs ->
  ds.length=cs.length/\(∀d,d∈ds->d.one=true)/\∀(j:Nat) (d:D) (v:Value),ds[j]?=some d->vs[j]?=some v->Bu S w d v
 |[],ds,vs,h,hr=>by grind[A3u]
 |c::cs,ds,vs,h,hr=>by
  cases vs with
  |nil=>exact absurd hr.1 (by simp)
  |cons v vs =>
   have L:Bv S w β cs vs:=⟨by have:=hr.1;grind,λj c u Z V=>hr.2 (j+1) c u Z V⟩;have O:=hr.2 0 c v rfl rfl;have key:∃d l,ds=d::l/\A3u cs=some l/\d.one=true/\Bu S w d v:=by
    unfold A3u at h;split at h
    .grind
    .rename_i c' r E;cases E;rw[Jv]at h;obtain⟨l,I,rfl⟩:=h;obtain⟨b,base,q⟩:=O.B1u;refine⟨_,l,rfl,I,rfl,?_⟩;rw[q.v,Ma];exact .ptr _ b base q.inS q.one q.there q.rep
    .rename_i f r E;cases E;rw[Jv]at h;obtain⟨l,I,rfl⟩:=h;refine⟨_,l,rfl,I,rfl,?_⟩;cases O with
     |Bf _ _ vs W J =>obtain rfl:vs=[]:=Zp (by omega);exact .cl f [] [] rfl (by simp)
    .rename_i x r _ _ E;cases E;split at h
     .rename_i d hd;rw[Jv]at h;obtain⟨l,I,rfl⟩:=h;obtain⟨_,J,U⟩:=B2d [_] [d] [v] hd (.cons O .nil);exact⟨d,l,rfl,I,J d (by simp),U 0 d v rfl rfl⟩
     grind
   obtain⟨d,l,rfl,I,h2,h3⟩:=key;obtain⟨W,J,U⟩:=E0o cs l vs I L
   grind
variable {ro:Option Nat} {n:Nat} {Q:Exit->SL->Ab->Prop}
def A0.A0v{c:Code}(k:Nat){cs:List SV}{ds:List D}(U:A7 bx k=some (.cells cs))(hd:A3u cs=some ds)
  (h:A0 ro P n c Q (L7 k ⟨λoff=>.A9 ds off,.acc k,.mp k⟩ sl) (Jo k ⟨λoff=>.A9 ds off,.acc k,.mp k⟩ (Cd k bx))):A0 ro P n c Q sl bx:=by
 refine A0.A3x k (Gu U) (λS w β Z hS=>⟨λoff v E=>?_,λv E=>E,λv E=>E,λ_=>rfl,rfl,rfl⟩) h;obtain⟨b,ty,vs,J,L,O⟩:=Z;obtain⟨q1,W,V⟩:=E0o cs ds vs hd O;have hl:=O.1;cases E with
 |box _ _ b' I =>
  rw[J]at I;cases I;have:=Am.A9 (S:=S) (w:=w) (β:=β) ds off b 0 (hS b J) W (λj hj=>⟨vs[j]'(by omega),by rw[cells_of_row L,Ky];simp⟩)
   (λj d v hd E=>V j d v hd (by rw[cells_of_row L,Ky]at E;exact E))
  grind
end Go.Abs
/- the greater of two numbers; the address of an element of a package variable that is laid. Own framework. -/
namespace Go.Abs
open Go
variable {P:Program} {sl:SL} {bx:Ab}
end Go.Abs
/- delete from a map of one's own. Own framework. -/
namespace Go.Abs
open Go
variable {P:Program} {sl:SL} {bx:Ab}
def B3j(k:D)(kvs:List (D × D)):List (D × D):=match F9 k.lits kvs 0 with
 |some (j,_)=>kvs.eraseIdx j
 |none=>kvs
def Vw.eraseIdx{es:Array MapEntry}{E:Nat}(h:Vw es E)(j:Nat)(L:j<es.size):Vw (es.eraseIdxIfInBounds j) E:=by
 have I:(es.eraseIdxIfInBounds j).toList=es.toList.eraseIdx j:=by unfold Array.eraseIdxIfInBounds;rw[dif_pos L];simp
 refine⟨λx J=>?_,?_⟩
 .rw[I]at J;exact h.1 x ((List.eraseIdx_sublist _ _).subset J)
 .rw[I];exact((List.eraseIdx_sublist _ _).map _).nodup h.2
def G0w{o:Oper}{ρ:Hz}{T kt et k:Nat}{m x:Operand}(ho:o.op=.call { callee:=.builtin .delete,args:=#[m,x],argTypes:=#[T,kt] }){kvs:List (D × D)}{kd:D}(hm:ρ m=.mp k)(hb:(k,Aq.map kvs)∈bx)
  (hT:P.underlying T=some (.map kt et))(W:Mi P kt=true)(hx:Me (ρ x)=some kd)(O:E7 P kt kd)(Z:∀kv,kv∈kvs->E7 P kt kv.1) :
  Br P o ρ bx (.tuple []) ((k,.map (B3j kd kvs))::Cd k bx) []:=by
 intro C S w β a hi ha;have U:=ha m (mC ho);rw[hm]at U;have a5:=C1f (ha x (mC ho)) hx;have a6:=a5.kv O.isKey;obtain⟨r,es,E,I,hh,V,a0⟩:=hi.box k _ hb;have a1:=V.1;generalize a4:a.eval m=mv at U;cases U with
 |mp _ b J =>
  rw[I]at J;cases J;obtain⟨q,hq,hf⟩:=C3q W w O es.toList kvs (by omega) (C0k a1 (λr kv e h1 h2=>(a0 r kv e h1 h2).1) Z);have L:=C7g W es.isEmpty w O;have a2:r<w.heap.size:=(hi.Ba k _ hb r I).2.1;rw[<-a6]at hq L;unfold B3j;cases a3:F9 kd.lits kvs 0 with
  |none =>
   rw[a3]at hf;simp only[Found]at hf;subst hf;obtain⟨h1,h2⟩:=B8s (kvs:=kvs) hi hb I a2 es E ⟨a1,V.2⟩ a0;refine I7 ?_;unfold Oper.wp;rw[show(execOp a.eval o).run P w=.ok (.value (.tuple #[])) { w with heap:=w.heap.setIfInBounds r (.map es E) } by simp[execOp,ho,a4,resolve,invoke,builtin,Builtin.delete_,Xp hT,Ai1 hh,L,hq,MapKept.run_setObj_map _ hh]]
   exact⟨.tuple #[],S,β,rfl,h1,h2,.tuple [] [] rfl (by simp),λ_ _=>rfl⟩
  |some jd =>
   obtain⟨j,d⟩:=jd;rw[a3]at hf;obtain⟨e,k',_,g1,g2,rfl⟩:=hf;simp at g1 g2;have hj:j<es.size:=(Uq.1 g1).1;have a7:(es.eraseIdxIfInBounds j).toList=es.toList.eraseIdx j:=by unfold Array.eraseIdxIfInBounds;rw[dif_pos hj];simp
   have a8:∀i:Nat,(es.eraseIdxIfInBounds j)[i]?=(es.toList.eraseIdx j)[i]?:=λi=>by grind
   obtain⟨h1,h2⟩:=B8s (kvs:=kvs.eraseIdx j) hi hb I a2 (es.eraseIdxIfInBounds j) E ⟨by
     grind,V.2.eraseIdx j hj⟩ (by
    grind)
   refine I7 ?_;unfold Oper.wp;rw[show(execOp a.eval o).run P w=.ok (.value (.tuple #[])) { w with heap:=w.heap.setIfInBounds r (.map (es.eraseIdxIfInBounds j) E) } by simp[execOp,ho,a4,resolve,invoke,builtin,Builtin.delete_,Xp hT,Ai1 hh,L,hq,MapKept.run_setObj_map _ hh]]
   exact⟨.tuple #[],S,β,rfl,h1,h2,.tuple [] [] rfl (by simp),λ_ _=>rfl⟩
def D4s{dst:Option Nat}{T E et k:Nat}{m x:Operand}{kvs:List (D × D)}{O:D}(V:Ao sl m=.mp k)(Z:(k,Aq.map kvs)∈bx)
  (hT:P.underlying T=some (.map E et))(L:Mi P E=true)(U:Me (Ao sl x)=some O)(J:E7 P E O)(I:∀kv,kv∈kvs->E7 P E kv.1) :
  OpB P sl bx dst (.call ⟨.builtin .delete,#[m,x],#[T,E]⟩) (.tuple []) ((k,.map (B3j O kvs))::Cd k bx) []:=λ_ W _=>G0w W V Z hT L U J I
end Go.Abs
/- a drawn region with a slice built of one zero type (a constant aggregate) -/
namespace Go.Abs
open Go
variable {ro:Option Nat} {P:Program} {n:Nat} {Q:Exit->SL->Ab->Prop} {sl:SL} {bx:Ab}
abbrev zTy:Value:=.agg #[.string ⟨#[]⟩,.slice none 0 0,.int .i64 0]
abbrev B7f:List D:=[.str [],.nil,.int .i64 0]
abbrev A9u:List D:=[.str [],.slice [],.int .i64 0]
def Br.rho{o:Oper}{ρ E:Hz}{bx bx':Ab}{r:SV}{pg:List Nat}(h:Br P o E bx r bx' pg)(hs:∀(S:Nat->Prop)(w:World) (β:Names)(a:Act)(x:Operand),Am S w β (ρ x) (a.eval x)->Am S w β (E x) (a.eval x)):Br P o ρ bx r bx' pg :=
 λC S w β a J L=>h C S w β a J λx I=>hs S w β a x (L x I)
def C4z(ρ:Hz)(x:Operand):SV:=match x with
 |.const (.agg ⟨[.string ⟨⟨[]⟩⟩,.slice none 0 0,.int .i64 0]⟩)=>.agg (B7f.map SV.d)
 |x=>ρ x
def G0t(ρ:Hz)(S:Nat->Prop)(w:World)(β:Names)(a:Act)(x:Operand)(h:Am S w β (ρ x) (a.eval x)):Am S w β (C4z ρ x) (a.eval x):=by
 unfold C4z;split
 .refine .agg _ _ rfl (by simp[SV.one,D.one]) λj c v E I=>?_
  match j with
  |0=>cases E;cases I;exact A5a S w β (.string ⟨#[]⟩)
  |1=>cases E;cases I;exact A5a S w β (.slice none 0 0)
  |2=>cases E;cases I;exact A5a S w β (.int .i64 0)
 omega
def H5k{o:Oper}{ρ:Hz}{T e:Nat}(I:o.op=.buildSlice T 1 #[(0,.const zTy)])(hT:Dt P T=some e)(hs:Be P e=some 3)(E:Cb P e=some (B7f.map SV.d))(bx:Ab):Br P o ρ bx (.d (.slice [A9u])) bx [] :=
 (E1o (ρ:=C4z ρ) (bx:=bx) I hT hs E rfl (by decide) rfl (by rfl) (by decide)).rho (G0t ρ)
def D2e:∀(E I:List Oper)(is:List Ip),Su (E++I) is=Su E is++Su I (is.drop E.length)
 |[],_,_=>rfl
 |o::E,I,is=>by rw[Jq,Su,Su,D2e E I is.tail,Jq,Bg];simp
variable {ops:Array Oper}
def A0.F1m{id:Nat}(ks own:List Nat)(m i T e:Nat)(is:List Ip)(hm:P.follows .mixedOrders=true)(hc:Vu ops (Wx m is) (Region.before ops)=true)(hd:Ef n ops.toList=true)
  (o:Oper)(hi:ops.toList.take m=ops.toList.take i++o::(ops.toList.drop (i+1)).take (m - i - 1))(ho:o.op=.buildSlice T 1 #[(0,.const zTy)])(hg:o.guard=none)(W:(ops.toList.take i).length=i)(U:G2 (is.drop i)=⟨[],[],[],[]⟩)
  (hT:Dt P T=some e)(hs:Be P e=some 3)(V:Cb P e=some (B7f.map SV.d))
  (h:I8 P own ops (ops.toList.take i) is sl bx (λL E=>I8 P own ops ((ops.toList.drop (i+1)).take (m - i - 1)) (is.drop (i+1)) (Fy L o.dst (.d (.slice [A9u]))) E (Wz P own ops (ops.toList.drop m) (He ks (Q .normal))))):A0 ro P n (.region id ops true) Q sl bx:=by
 have I:∀l:List Oper,(∀x,x∈l->x∈ops.toList)->Ef n l=true:=λl W=>by grind[Ef]
 have Z:o∈ops.toList:=Ji (i:=m) (by grind);refine A0.D4w _ _ ks hm hc hd ?_;rw[E6m,hi,D2e,Su,W,U,Ga];refine B2r (λL E h1=>?_) _ _ _ _ (I _ λx J=>Ji J) h;have O:(is.drop i).tail=is.drop (i+1):=by simp
 rw[O,Jq];refine⟨true,.d (.slice [A9u]),E,[],by unfold Td;rw[hg],A3w (I [o] (by grind)) o (by simp),⟨λ_=>?_,(λh=>by cases h),λz U=>?_⟩,?_⟩
 .show Br P o _ (Hu [] E) _ E [];rw[A1r];exact H5k ho hT hs V _
 .cases U;exact⟨by simp,by simp,by simp,by simp,by simp,by simp,by simp,by simp⟩
 .refine B2r (own:=own) (K:=Wz P own ops (ops.toList.drop m) (He ks (Q .normal))) (λa0 a1 h2=>(A5i _ _ _ (I _ λx J=>Zz J) h2).gen) _ _ _ _ (I _ λx J=>Zz (Ji J)) ?_;have e1:∀l:SL,G1 [] l=l:=λl=>by rfl
  have e2:∀b:Ab,b++bin [] b=b:=λb=>by rw[A3m,Fj]
  rw[e1];show I8 P own ops _ _ _ (E++bin [] E) _;rw[e2];exact h1
def A0.E6o{id:Nat}(ks own:List Nat)(m i T e:Nat)(is:List Ip)(O:P.follows .mixedOrders=true)(W:Vu ops (Wx m is) (Region.before ops)=true)(hd:Ef n ops.toList=true)
  (o:Oper)(V:ops.toList.take m=ops.toList.take i++o::(ops.toList.drop (i+1)).take (m - i - 1))(U:o.op=.buildSlice T 1 #[(0,.const zTy)])(L:o.guard=none)(hl:(ops.toList.take i).length=i)(Z:G2 (is.drop i)=⟨[],[],[],[]⟩)
  (hT:Dt P T=some e)(hs:Be P e=some 3)(J:Cb P e=some (B7f.map SV.d))
  (h:∀K:SL->Ab->Prop,(∀sl' bx',Q .normal sl' bx'->K sl' bx')->I8 P own ops (ops.toList.take i) is sl bx (λE I=>I8 P own ops ((ops.toList.drop (i+1)).take (m - i - 1)) (is.drop (i+1)) (Fy E o.dst (.d (.slice [A9u]))) I (Wz P own ops (ops.toList.drop m) (He ks K)))):A0 ro P n (.region id ops true) Q sl bx :=
 A0.F1m ks own m i T e is O W hd o V U L hl Z hT hs J (h _ λ_ _ h=>h)
variable {C:Ctx}
def C2y{Z:Exit->Act->World->Prop}(hd:∀o,o∈ops.toList->Qm n o.dst)(E:∀o,o∈ops.toList->A3q o=true){K:SL->Ab->Prop}{rest:List Nat}
  (V:∀sl bx S w β a,K sl bx->St C n S w β a sl bx->wpOpsIn (FW ro) 0 P ops Z rest a w):∀(k i:Nat) (sl:SL) (bx:Ab) (S:Nat->Prop) (w:World) (β:Names) (a:Act),i+k<=ops.size->Xu P n ops ((ops.toList.drop i).take k) sl bx K ->
  St C n S w β a sl bx->wpOpsIn (FW ro) 0 P ops Z (List.range' i k++rest) a w
 |0,i,sl,bx,S,w,β,a,L,hr,hs=>V sl bx S w β a hr hs
 |k+1,i,sl,bx,S,w,β,a,L,hr,hs=>by
  have hi:i<ops.size:=by omega
  have dp:ops.toList.drop i=ops[i]::ops.toList.drop (i+1):=by rw[Gb (by omega)];simp
  rw[dp,Am1]at hr;obtain⟨g,hg,I,h1,h2⟩:=hr;simp only[Au4,Jq,wpOpsIn,Xb hi];have hw:=C6j (a:=a) (S:=S) (w:=w) (β:=β) (λt ht=>by obtain⟨j,W,_,hj⟩:=ht;exact⟨hs.slot t,by rw[hs.size];exact C7z hd hj⟩) hg
  rw[hw];cases g with
  |true =>simp only[Af];obtain⟨r,bx',pg,O,J⟩:=h1 rfl;refine Oper.C6b (E _ (by simp)) (O C S w β a hs.inv λx _=>hs.Ao x) ?_;rintro a' w' ⟨v,S',β',rfl,U,he,hv,hb⟩;exact C2y hd E V k (i+1) _ bx' S' w' β' _ (by omega) J (hs.put I U he hv hb)
  |false =>simp only[I0,Fx];refine⟨λ_ _=>trivial,?_⟩;exact C2y hd E V k (i+1) _ bx S w β _ (by omega) (h2 rfl) (hs.put (pg:=[]) I hs.inv (C4.refl S w) (.tuple [] [] rfl (by simp)) (λ_ _=>rfl))
abbrev B7k(rs:List (List D))(k:Nat):Py:=⟨λoff=>.box k off,.d (.slice rs),.mp k⟩
def St.A3x{S:Nat->Prop}{w:World}{β:Names}{a:Act}(k:Nat){bc:Aq}{f:Py}(hk:(k,bc)∈bx)
  (hf:∀(S:Nat->Prop) (w:World) (β:Names),De S w β (β k) bc->(∀b,(β k).base=some b->S b)->A6u S S w β k f)
  (hs:St C n S w β a sl bx):∃S',St C n S' w β a (L7 k f sl) (Jo k f (Cd k bx)):=by
 let S':Nat->Prop:=λb=>S b\/(β k).base=some b
 have e:C4 S w S' w:=⟨λ_ h=>.inl h,λ_ _=>rfl⟩;have E:=hs.inv;have a2:De S' w β (β k) bc:=(E.box k _ hk).ext e (λ_ _=>rfl) (λ_ _=>rfl);have a6:=hf S' w β a2 (λb hb=>.inr hb);have hr:A6u S' S' w β k f:=a6;have Z:∀{x:SV} {v:Value},Am S w β x v->Am S' w β (x.sub k f) v:=λhv=>(hv.ext e (λ_ _=>rfl)).sub hr (C4.refl _ _);refine⟨S',?_,hs.size,hs.defers.ext e,λt=>by rw[C6h];exact Z (hs.slot t)⟩;exact{
  Fe:=λb hb=>.inl (E.Fe b hb)
  Ej:=λb hb=>by
   rcases hb with hb|hb
   .exact E.Ej b hb
   .exact .inr (E.Ba k _ hk b hb).2.2
  Bw:=λb hb=>by
   rcases hb with hb|hb
   .exact E.Bw b hb
   .exact(E.Ba k _ hk b hb).2.1
  kept:=E.kept
  os:=E.os
  tape:=E.tape
  output:=E.output
  size:=E.size
  box:=λj c U=>by
   obtain⟨x,I,rfl⟩:=Nu U;obtain⟨a3,I⟩:=Ee.1 I;have:=E.box j x I;cases x with
   |cells cs =>obtain⟨b,ty,vs,h1,h2,h3⟩:=this;refine⟨b,ty,vs,h1,h2,?_⟩;rw[SV.A4s];refine h3.map (by simp) ?_;intro i x y v L hy hv;simp only[Df,L,Ez,B5]at hy;subst hy;exact Z hv
   |rows sz rs=>exact De.ext (c:=.rows sz rs) this e (λ_ _=>rfl) (λ_ _=>rfl)
   |map kvs=>exact De.ext (c:=.map kvs) this e (λ_ _=>rfl) (λ_ _=>rfl)
   |iter kvs seen=>exact De.ext (c:=.iter kvs seen) this e (λ_ _=>rfl) (λ_ _=>rfl)
   |ghost Y st=>exact this
  Ba:=λj c U b hb=>by
   obtain⟨x,I,rfl⟩:=Nu U;obtain⟨a3,I⟩:=Ee.1 I;obtain⟨h1,h2,h3⟩:=E.Ba j x I b hb;refine⟨λhs=>?_,h2,h3⟩;rcases hs with hs|hs
   .grind
   .exact a3 (E.inj j x k _ I hk b hb hs).1
  inj:=λj c j' c' U a1 b hb a5=>by
   obtain⟨x,I,rfl⟩:=Nu U;obtain⟨x',L,rfl⟩:=Nu a1;obtain⟨h1,h2⟩:=E.inj j x j' x' (Ee.1 I).2 (Ee.1 L).2 b hb a5
   grind
  E2:=λb cs hv=>⟨.inl (E.E2 b cs hv).1,(E.E2 b cs hv).2⟩
  one:=λj Y st j' Y' st' U a1=>by
   obtain⟨x,I,O⟩:=Nu U;obtain⟨x',L,a0⟩:=Nu a1;have e1:x=.ghost Y st:=by cases x <;> simp only[Aq.sub,reduceCtorEq]at O;exact O.symm
   have e2:x'=.ghost Y' st':=by cases x' <;> simp only[Aq.sub,reduceCtorEq]at a0;exact a0.symm
   subst e1;subst e2;exact E.one j Y st j' Y' st' (Ee.1 I).2 (Ee.1 L).2
  Fo:=λj Y st U=>by
   obtain⟨x,I,O⟩:=Nu U;have a4:x=.ghost Y st:=by cases x <;> simp only[Aq.sub,reduceCtorEq]at O;exact O.symm
   subst a4;obtain⟨h1,h2,h3,h4,B,h5,h6⟩:=E.Fo j Y st (Ee.1 I).2;have a7:=E.size;have hB:∀b,B b->¬S' b:=λb hb hs=>hs.elim (h6 b hb).1 ((h6 b hb).2.2.2 k _ hk);have W:∀V c',(V,c')∈Jo k f (Cd k bx)->∃y,(V,y)∈bx:=λV c' J=>by obtain⟨y,hy,_⟩:=Nu J;exact⟨y,(Ee.1 hy).2⟩
   refine⟨h1,h2,h3,λV c' J=>(W V c' J).elim λy hy=>h4 V y hy,B,h2.W3 st B S w _ w h5 ⟨λ_ h=>.inl h,λb hb=>hb.imp id λhb=>by grind,λb hb=>?_,hB,λ_ _=>rfl,rfl,rfl,rfl,Bs _⟩,
    λb hb=>⟨hB b hb,(h6 b hb).2.1,(h6 b hb).2.2.1,λV c' J=>(W V c' J).elim λy hy=>(h6 b hb).2.2.2 V y hy⟩⟩
   rcases hb with hb|hb
   .exact E.Bw b hb
   .exact(E.Ba k _ hk b hb).2.1
  fix:=E.fix }
def St.Lw{S:Nat->Prop}{w:World}{β:Names}{a:Act}(k:Nat){sz:Nat}{rs:List (List D)}(L:A7 bx k=some (.rows sz rs))(hs:St C n S w β a sl bx) :
  ∃S',St C n S' w β a (L7 k (B7k rs k) sl) (Jo k (B7k rs k) (Cd k bx)) :=
 hs.A3x k (Gu L) λS w β J I=>⟨λoff v E=>E,λv E=>by cases E;exact .d _ _ (J.B5t I),λv E=>E,λ_=>rfl,rfl,rfl⟩
def D7b(k:Nat)(E:SL)(I:Ab)(sl:SL)(bx:Ab):Prop:=∃sz rs,A7 bx k=some (.rows sz rs)/\sle (L7 k (B7k rs k) sl) E/\ble (Jo k (B7k rs k) (Cd k bx)) I
def A0.F1e{id:Nat}{y:Code}(ks own:List Nat)(i k:Nat)(E:SL)(I:Ab)(hi:i<=ops.size)(hd:Ef n ops.toList=true)
  (h1:Fa P own ops (ops.toList.take i) sl bx (D7b k E I))
  (h2:∀K:SL->Ab->Prop,(∀sl' bx',A0 ro P n y Q sl' bx'->K sl' bx')->Fa P own ops (ops.toList.drop i) E I (He ks K)):A0 ro P n (.seq (.region id ops false) y) Q sl bx:=by
 have J:∀l:List Oper,(∀x,x∈l->x∈ops.toList)->Ef n l=true:=λl hl=>by grind[Ef]
 refine A0.seq λC S w β a hs=>wpIn_region ?_;have hr:List.range ops.size=List.range' 0 i++List.range' i (ops.size - i):=by
  have:=@List.range'_append_1 0 i (ops.size - i);rw[Ky]at this;rw[List.range_eq_range',this]
  congr 1
  omega
 rw[hr];refine C2y (A3w hd) (B6h hd) (K:=D7b k E I) (λZ a0 S1 w1 β1 a1 V O=>?_) i 0 sl bx S w β a (by omega) (A5i _ _ _ (J _ λx L=>Ji (by simpa using L)) (by simpa using h1)) hs;obtain⟨sz,rs,e1,e2,e3⟩:=V;obtain⟨S2,U⟩:=O.Lw k e1;have h3:=A5i _ _ _ (J _ λx L=>Zz L) (h2 _ λ_ _ h=>h);exact B9i (A3w hd) (B6h hd) (λsl' bx' S' w' β' a' V W=>⟨_,_,S',β',V,W.W3 ks ks⟩) (ops.size - i) i E I S2 w1 β1 a1 (by omega) h3 (U.weaken e2 e3)
end Go.Abs
/- contracts with more than one possible result -/
namespace Go.Abs
open Go
variable {ro:Option Nat} {P:Program} {n:Nat} {Q:Exit->SL->Ab->Prop} {sl:SL} {bx:Ab} {o:Oper} {ρ:Hz}
def A4a(P:Program)(f:FuncId)(args:List SV)(R:SV->Prop):Prop :=
 Enters P f/\∀(C:Ctx) (β:Names) (vs:List Value),Inv C C.S0 C.w0 β []->Bv C.S0 C.w0 β args vs ->
  Calls P f ⟨vs⟩ C.w0 (λe w'=>∃r v S' β',R r/\e=.returned v/\Inv C S' w' β' []/\Am S' w' β' r v)
def A4a.imp{f:FuncId}{args:List SV}{R E:SV->Prop}(h:A4a P f args R)(hr:∀r,R r->E r):A4a P f args E :=
 ⟨h.1,λC β vs J V=>(h.2 C β vs J V).mono λ_ _ ⟨r,v,S',β',U,I,L,O⟩=>⟨r,v,S',β',hr r U,I,L,O⟩⟩
def G0m(P:Program)(fn:Func)(R:SV->Prop)(e:Exit)(sl:SL)(bx:Ab):Prop :=
 match e with
 |.normal| .ret=>∃xs r,Uv P bx sl fn.results.toList=some xs/\coerce bx (Wq xs)=some r/\R r
 |_=>False
def A4a.B7w{f:FuncId}{fn:Func}{c:Code}{args:List SV}{R:SV->Prop}(O:P.funcs[f]?=some fn)(E:fn.body=some c)(hn:(fn.name == "runtime.NumGoroutine")=false)(V:args.length<=fn.ntmps)
  (h:A0 none P fn.ntmps c (G0m P fn R) (V6 0 args) []):A4a P f args R:=by
 refine⟨⟨fn,O,hn,by grind⟩,?_⟩;intro C β vs Z J;refine C3g O E ?_;refine Zq (h C C.S0 C.w0 β _ (St.start Z J V)) ?_;rintro e L w' ⟨sl',bx',S',β',q,hs⟩;have key:(∃xs r,Uv P bx' sl' fn.results.toList=some xs/\coerce bx' (Wq xs)=some r/\R r)->LeavesInM Fence.wide 0 P fn L.tmps (λe w'=>∃r v S' β',R r/\e=.returned v/\Inv C S' w' β' []/\Am S' w' β' r v) L.defers .returning w':=by
  rintro⟨xs,r,h1,h2,hR⟩;refine hs.leave λw' hs=>?_;obtain⟨v,h3,W⟩:=C8q (P:=P) hs h1;refine⟨v,h3,r,v,λb=>S' b\/∃k c,(k,c)∈bx'/\(β' k).base=some b,β',hR,rfl,?_,?_⟩
  .exact{
    Fe:=λb E=>.inl (hs.inv.Fe b E)
    Ej:=λb E=>by
     rcases E with E|⟨k,c,I,E⟩
     .exact hs.inv.Ej b E
     .exact .inr (hs.inv.Ba k c I b E).2.2
    Bw:=λb E=>by
     rcases E with E|⟨k,c,I,E⟩
     .exact hs.inv.Bw b E
     .exact(hs.inv.Ba k c I b E).2.1
    kept:=hs.inv.kept
    os:=hs.inv.os
    tape:=hs.inv.tape
    output:=hs.inv.output
    size:=hs.inv.size
    box:=λk c I=>by grind
    Ba:=λk c I=>by grind
    inj:=λk c U c' I=>by simp
    E2:=λb cs J=>⟨.inl (hs.inv.E2 b cs J).1,(hs.inv.E2 b cs J).2⟩
    one:=λk Y st U Y' st' I=>by simp
    Fo:=λk Y st I=>by grind
    fix:=hs.inv.fix }
  .exact(A6b hs.inv ⟨λ_ h=>.inl h,λ_ _=>rfl⟩ (λk c I b E=>.inr ⟨k,c,I,E⟩) h2 W).1
 cases e with
 |normal=>exact key q
 |ret=>exact key q
 |_=>exact q.elim
end Go.Abs
/- calls that are lent a variable and the own slice that it holds -/
namespace Go.Abs
open Go
variable {ro:Option Nat} {P:Program} {n:Nat} {Q:Exit->SL->Ab->Prop} {sl:SL} {bx:Ab} {o:Oper} {ρ:Hz}
end Go.Abs
