import Derived.Test.YtoajimpjknbnoaaGreatDoorKAb8
import Derived.Scope
set_option linter.all false
set_option maxRecDepth 100000
namespace Go.iA
open Go
variable {P:Program} {sl:SL} {bx:Ac} {o:Oper} {ρ:Iq}
def H4w{f:FuncId}(O:Enters P f){fo:Operand}{args:Array Operand}{Dr:Array TypeId}(I:o.op=.call { callee:=.value fo,args:=args,argTypes:=Dr }){a:Act}{vs:Array Value}{w:World}(E:a.eval fo=.func (.func f) vs #[]) :(execOp a.eval o).run P w=.ok (.enter f (vs++args.map a.eval)) w:=by obtain⟨fn,U,J,L⟩:=O;simp only[execOp,I,resolve,Deferred.ofValue,E,invoke,callFunc,Ha,L3,Hp,run_program,U,J,L,Iu,Gi,Array.append_empty]
end Go.iA
namespace Go.iA
open Go
section
variable {P:Program} {n:Nat} {Q:Exit->SL->Ac->Prop} {sl:SL} {bx:Ac}
def F7k(Q:Exit->SL->Ac->Prop):Exit->SL->Ac->Prop
 |.goto _,_,_=>False
 |e,sl,bx=>Q e sl bx
def A0.scope{c:Code}(h:A0 none P n c (F7k Q) sl bx):A0 none P n (.scope c) Q sl bx:=by
 intro C S w β a hs;have E:=h C S w β a hs;rw[H5q,wpIn_wide]at E |-;refine wp_scope_straight (wp_mono E ?_);rintro e I w' ⟨sl',bx',S',β',q,r⟩;cases e with
 |goto l=>exact q.elim
 |_=>exact⟨sl',bx',S',β',q,r⟩
def oG{ro:Option Nat}{l:Nat}{y:Code}(h:A0 ro P n y Q sl bx):A0 ro P n (.seq (.label l) y) Q sl bx :=A0.seq λ_ S _ β _ hs=>wpIn_label ⟨sl,bx,S,β,h,hs⟩
end
variable {P:Program} {sl:SL} {bx:Ac} {o:Oper} {ρ:Iq}
def zF:SV->D->Prop
 |.d x,y=>x=y/\x.one=true
 |.A8 cells off,y=>off=0/\y=.ptr cells
 |_,_=>False
variable {x:SV} {y:D}
def x9(h:zF x y):x.one=true/\y.one=true:=by cases x <;> simp[zF]at h;obtain⟨rfl,E⟩:=h;exact⟨E,E⟩;obtain⟨_,rfl⟩:=h;exact⟨rfl,rfl⟩
variable {S:Nat->Prop} {w:World} {β:Names}
theorem c6{v:Value}(h:zF x y)(hr:An S w β x v):C5 S w y v:=by cases x <;> simp[zF]at h;obtain⟨rfl,_⟩:=h;exact hr.Js;obtain⟨rfl,rfl⟩:=h;obtain⟨b,base,q⟩:=hr.DL;rw[q.v,Nd];exact .ptr _ b base q.inS q.one q.there q.rep
theorem kh{v:Value}(h:zF x y)(hr:C5 S w y v):An S w β x v:=by
 cases x <;> simp[zF]at h;obtain⟨rfl,_⟩:=h;exact .d _ _ hr
 .obtain⟨rfl,rfl⟩:=h;cases hr with
  |ptr _ b base I L E J=>exact .A8 _ 0 b base I L E J
def Zq:List SV->List D->Prop
 |[],[]=>True
 |x::xs,y::ys=>zF x y/\Zq xs ys
 |_,_=>False
def pL:∀{xs:List SV} {ys:List D},Zq xs ys->xs.length=ys.length/\∀(j:Nat)(x:SV)(y:D),xs[j]?=some x->ys[j]?=some y->zF x y
 |[],[],_=>⟨rfl,λj x y h=>by simp⟩
 |[],_::_,h=>h.elim
 |_::_,[],h=>h.elim
 |x::xs,y::ys,h=>by
  obtain⟨L,J⟩:=pL h.2;refine⟨by grind,λj a b E I=>?_⟩
  match j with
  |0 =>simp only[Rh,B8]at E I;subst E;subst I;exact h.1
  |j+1 =>grind
variable {ys:List D}
theorem G6d{xs:List SV}{v:Value}(hd:Zq xs ys)(h:An S w β (.agg xs) v):C5 S w (.agg ys) v:=by
 obtain⟨O,J⟩:=pL hd;cases h with
 |agg cs vs W U V =>refine .agg _ _ (by omega) ?_ ?_;intro y L;obtain⟨j,E⟩:=Re.1 L;obtain⟨I,_⟩:=Az.1 E;exact(x9 (J j _ y (Bu (by omega:j<xs.length)) E)).2;intro j d x hd Z;obtain⟨I,_⟩:=Az.1 hd;have E:=Bu (by omega:j<xs.length);grind[c6]
def fv{xs:List SV}{v:Value}(hd:Zq xs ys)(h:C5 S w (.agg ys) v):An S w β (.agg xs) v:=by
 obtain⟨O,J⟩:=pL hd;cases h with
 |agg cs vs W U V =>refine .agg _ _ (by omega) ?_ ?_;intro y L;obtain⟨j,E⟩:=Re.1 L;obtain⟨I,_⟩:=Az.1 E;exact(x9 (J j y _ E (Bu (by omega:j<ys.length)))).1;intro j d x hd Z;obtain⟨I,_⟩:=Az.1 hd;have E:=Bu (by omega:j<ys.length);grind[kh]
def G9z{f:FuncId}{x:Operand}{xs:List SV}(hd:Zq xs ys)(E:o.op=.makeFunc (.func f) #[x] #[])(L:ρ x=.agg xs):C1 P o ρ bx (.d (.fn f [.agg ys])) bx []:=by refine C1.Ei λC S w β a O I=>?_;have J:=I x (mC E);rw[L]at J;refine⟨.func (.func f) #[a.eval x] #[],by simp[execOp,E,Instr.makeFunc],.d _ _ (.fn f _ [a.eval x] rfl ?_)⟩;grind[G6d]
def ew{f:FuncId}{fo:Operand}{args:List Operand}{Dr:List TypeId}{xs:List SV}(hd:Zq xs ys){I:List SV}{r:SV}(hf:Aq sl fo=.d (.fn f [.agg ys]))(L:Gz [] (.agg xs::args.map (Aq sl))=some I)(hc:Ab P f I r)(hr:r.closed=true) :cC P sl bx (.call ⟨.value fo,args.toArray,Dr.toArray⟩) r:=by
 intro o ho C S w β a hi ha;have U:=ha fo (mC ho);rw[hf]at U;have O:=U.Js;generalize Z:a.eval fo=v at O;cases O with
 |fn _ _ vs h1 h2 =>
  match vs,h1 with
  |[u],_ =>
   have hu:=fv (β:=β) hd (h2 0 _ u rfl rfl);have V:C7 S w β (.agg xs::args.map (Aq sl)) (u::args.map a.eval):=.cons hu (MA _ λx hx=>ha x (mo ho (by grind[Op.operands,Call.operands])));have W:Inv ⟨w,S,λ_=>False,λ_ _=>False,C.G⟩ S w β []:=hi.begin hi.C9 (λ_ h=>h);obtain⟨g1,g2⟩:=Vt W (Cg.refl S w) (by simp) L V;have J:=hc.2 ⟨w,S,λ_=>False,λ_ _=>False,C.G⟩ β _ W g1;refine Ja ?_;unfold Oper.wp;rw[H4w hc.1 ho Z,gC];have E:(⟨[u]⟩:Array Value)++args.toArray.map a.eval=⟨u::args.map a.eval⟩:=by apply L5;simp
   rw[E];refine J.mono ?_;rintro e w' ⟨v,S',β',rfl,hk,hv⟩;obtain⟨q1,q2⟩:=hi.back hk;have e':Cg S' w' (λb=>S b\/(S' b/\w.heap.size<=b)) w':=⟨λb hb=>by rcases hk.F9 b hb with h|h|h;grind;grind;grind,λ_ _=>rfl⟩;exact⟨v,_,β,rfl,q1,q2,(hv.ext e' (λ_ _=>rfl)).closed hr,λ_ _=>rfl⟩
def G1m{T e len sz:Nat}{parts:Array (Nat × Operand)}(L:o.op=.build T parts){J:List SV}{ps:List (Nat × Nat)}{l:List (Nat × List SV)}{out:List SV}
  (hT:P.underlying T=some (.array len e))(hs:Bp P e=some sz)(W:Co P T=some J)(hp:∀(i:Nat) (q:Nat × Nat),ps[i]?=some q->q=(i*sz,sz))(Z:Zc ρ parts.toList=some l)(V:ID ps J l=some out)(h1:out.all SV.one=true):C1 P o ρ bx (.agg out) bx [] :=
 .Ei λ_ S w β a _ ha=>by
  obtain⟨z,E,rfl⟩:=SK W w;obtain⟨g1,g2,_⟩:=NS parts.toList l (λp hp=>ha p.2 (mo L (by grind[Op.operands]))) Z;obtain⟨O,U,q2⟩:=lW (λi=>some (i*sz,sz)) ps l (parts.toList.map λp=>(p.1,a.eval p.2)) _ out _ (MU S w β z.cells.toList) (λi q hq=>by grind) g1 g2 V;refine⟨.agg ⟨O⟩,?_,YA q2 h1⟩;have I:z.cells=⟨z.cells.toList⟩:=rfl;have:Instr.fill (λi=>some (i*sz,sz)) z.cells (Array.map (λx=>(x.fst,a.eval x.snd)) parts).toList=some ⟨O⟩:=by rw[I,kN];exact U
  simp only[execOp,L,Instr.build,Ha,E,Hp,underlying,run_program,hT,L3,Qh hs,this]
def lr{T e len sz:Nat}{x y:Operand}(L:o.op=.indexAddr T x y){k off:Nat}{W:IntKind}{i:Int}(hx:ρ x=.box k off)(Z:ρ y=.d (.int W i))
  (hT:P.underlying T=some (.array len e))(hs:Bp P e=some sz)(V:0<=i)(h1:i<len):C1 P o ρ bx (.box k (off+i.toNat*sz)) bx [] :=
 .Ei λ_ S w β a hi O=>by have J:=(O x (mo L (by grind[Op.operands])));rw[hx]at J;have E:=(O y (mo L (by grind[Op.operands])));rw[Z]at E;have E:=E.J6;obtain⟨b,I,U⟩:=J.eJ;refine⟨.pointer (some ⟨b,off+i.toNat*sz,none⟩),?_,.box _ _ _ I⟩;simp only[execOp,L,Instr.indexAt,U,E,Ha,asIntOf,L3,Hp,underlying,run_program,hT,Instr.sureAddr,Qh hs];simp only[V,h1,and_self,Av,Ha,Qh hs,Hp,L3,Addr.add];simp
def G7n{T e len sz:Nat}{x y:Operand}{k off j q:Nat}{J:IntKind}{i:Int}(O:Aq sl x=.box k off)(L:Aq sl y=.d (.int J i))(U:i=j)
  (hT:P.underlying T=some (.array len e))(hs:Bp P e=some sz)(V:j<len)(I:off+j*sz=q):cC P sl bx (.indexAddr T x y) (.box k q):=by intro o E;subst I;have h:=lr (P:=P) (bx:=bx) (ρ:=Aq sl) E O L hT hs (by omega) (by omega);grind
variable {ro:Option Nat} {P:Program} {n:Nat} {Q:Exit->SL->Ac->Prop} {sl:SL} {bx:Ac}
end Go.iA
namespace Go.iA
open Go
variable {P:Program} {sl:SL} {bx:Ac} {o:Oper} {ρ:Iq}
def Jp{f:FuncId}{caps:Array Operand}{xs:List SV}{ys:List D}(hd:Zq xs ys)(Z:caps.toList.map (Aq sl)=xs):cC P sl bx (.makeFunc (.func f) #[] caps) (.d (.cl f ys)):=by
 intro o J;refine C1.Ei λC S w β a hi V=>?_;obtain⟨hl,U⟩:=pL hd;have L:caps.toList.length=xs.length:=by rw[<-Z,B7]
 refine⟨.func (.func f) #[] ⟨caps.toList.map a.eval⟩,by rw[show(⟨caps.toList.map a.eval⟩:Array Value)=caps.map a.eval by grind];simp[execOp,J,Instr.makeFunc],.d _ _ (.cl f _ (caps.toList.map a.eval) (by grind) ?_)⟩;intro j d v E I;rw[Df,Jn]at I;obtain⟨x,O,rfl⟩:=I;have W:=V x (mo J (by grind[Op.operands]));exact c6 (U j _ d (by grind) E) W
def H6m{f:FuncId}{fo:Operand}{args:List Operand}{Dr:List TypeId}{xs:List SV}{ys:List D}(hd:Zq xs ys){I:List SV}{r:SV}(hf:Aq sl fo=.d (.cl f ys))(O:Gz [] (args.map (Aq sl)++xs)=some I)(hc:Ab P f I r)(hr:r.closed=true) :cC P sl bx (.call ⟨.value fo,args.toArray,Dr.toArray⟩) r:=by
 intro o ho C S w β a hi ha;have V:=ha fo (mC ho);rw[hf]at V;have U:=V.Js;generalize a0:a.eval fo=v at U;cases U with
 |cl _ _ vs h1 h2 =>
  obtain⟨hl,hg⟩:=pL hd;have L:C7 S w β xs vs:=⟨by omega,λj c u hc hu=>by obtain⟨a1,_⟩:=Az.1 hc;have hj:ys[j]?=some ys[j]:=Bu (by omega);grind[kh]⟩;have W:C7 S w β (args.map (Aq sl)++xs) (args.map a.eval++vs):=(MA _ λx hx=>ha x (mo ho (by grind[Op.operands,Call.operands]))).append L;have Z:Inv ⟨w,S,λ_=>False,λ_ _=>False,C.G⟩ S w β []:=hi.begin hi.C9 (λ_ h=>h);obtain⟨g1,g2⟩:=Vt Z (Cg.refl S w) (by simp) O W;have J:=hc.2 ⟨w,S,λ_=>False,λ_ _=>False,C.G⟩ β _ Z g1;refine Ja ?_;unfold Oper.wp;rw[tD hc.1 ho a0,gC];have E:args.toArray.map a.eval++(⟨vs⟩:Array Value)=⟨args.map a.eval++vs⟩:=by apply L5;simp
  rw[E];refine J.mono ?_;rintro e w' ⟨v,S',β',rfl,hk,hv⟩;obtain⟨q1,q2⟩:=hi.back hk;have e':Cg S' w' (λb=>S b\/(S' b/\w.heap.size<=b)) w':=⟨λb hb=>by rcases hk.F9 b hb with h|h|h;grind;grind;grind,λ_ _=>rfl⟩;exact⟨v,_,β,rfl,q1,q2,(hv.ext e' (λ_ _=>rfl)).closed hr,λ_ _=>rfl⟩
def F8e{x y:Operand}{Dr:Array TypeId}{m n:Int}(U:Aq sl x=.d (.int .i64 m))(O:Aq sl y=.d (.int .i64 n)) :cC P sl bx (.call ⟨.builtin .min,#[x,y],Dr⟩) (.d (.int .i64 (if n<m then n else m))):=by intro o J;refine C1.Ei λC S w β a V L=>?_;have I:=L x (mC J);rw[U]at I;have I:=I.J6;have E:=L y (mC J);rw[O]at E;have E:=E.J6;refine⟨.int .i64 (if n<m then n else m),?_,.d _ _ (.int _ _)⟩;simp[execOp,J,resolve,invoke,builtin,Builtin.min_,Builtin.min2,I,E]
def I5(P:Program)(d:D)(args:List SV)(r:SV):Prop:=∃f xs ys E,d=.cl f ys/\Zq xs ys/\Gz [] (args++xs)=some E/\Ab P f E r
def Ly{d:D}{fo:Operand}{args:List Operand}{Dr:List TypeId}{r:SV}(I:Aq sl fo=.d d)(h:I5 P d (args.map (Aq sl)) r)(hr:r.closed=true) :cC P sl bx (.call ⟨.value fo,args.toArray,Dr.toArray⟩) r:=by obtain⟨f,xs,ys,E,rfl,O,J,L⟩:=h;exact H6m O I J L hr
def Ab.ptr{f:FuncId}{c:List D}{args:List SV}{r:SV}(h:Ab P f (.A8 c 0::args) r):Ab P f (.d (.ptr c)::args) r:=by
 refine⟨h.1,λC β vs O E=>h.2 C β vs O ?_⟩;cases vs with
 |nil=>exact absurd E.1 (by simp)
 |cons v vs =>
  have U:=E.2 0 _ v rfl rfl;refine .cons ?_ ?_
  .have:=U.Js;cases this with
   |ptr _ b base I J Z V=>exact .A8 _ 0 b base I J Z V
  exact⟨by have:=E.1;grind,λj c u L W=>E.2 (j+1) c u L W⟩
def TF:List SV->Option (List D)
 |[]=>some []
 |.A8 c 0::r=>(TF r).map (.ptr c::·)
 |.Bi f []::r=>(TF r).map (.cl f []::·)
 |x::r=>match Uu [x]with
  |some [d]=>(TF r).map (d::·)
  |_=>none
def pc{S:Nat->Prop}{w:World}{β:Names}:∀(cs:List SV)(ds:List D)(vs:List Value),TF cs=some ds->C7 S w β cs vs ->ds.length=cs.length/\(∀d,d∈ds->d.one=true)/\∀(j:Nat) (d:D) (v:Value),ds[j]?=some d->vs[j]?=some v->C5 S w d v
 |[],ds,vs,h,hr=>by grind[TF]
 |c::cs,ds,vs,h,hr=>by
  cases vs with
  |nil=>exact absurd hr.1 (by simp)
  |cons v vs =>
   have J:C7 S w β cs vs:=⟨by have:=hr.1;grind,λj c u V Z=>hr.2 (j+1) c u V Z⟩;have L:=hr.2 0 c v rfl rfl;have key:∃d l,ds=d::l/\TF cs=some l/\d.one=true/\C5 S w d v:=by
    unfold TF at h;split at h
    .grind
    .rename_i c' r E;cases E;rw[Jn]at h;obtain⟨l,I,rfl⟩:=h;obtain⟨b,base,q⟩:=L.DL;refine⟨_,l,rfl,I,rfl,?_⟩;rw[q.v,Nd];exact .ptr _ b base q.inS q.one q.there q.rep
    .rename_i f r E;cases E;rw[Jn]at h;obtain⟨l,I,rfl⟩:=h;refine⟨_,l,rfl,I,rfl,?_⟩;cases L with
     |Bi _ _ vs W O =>obtain rfl:vs=[]:=XC (by omega);exact .cl f [] [] rfl (by simp)
    .rename_i x r _ _ E;cases E;split at h
     .rename_i d hd;rw[Jn]at h;obtain⟨l,I,rfl⟩:=h;obtain⟨_,O,U⟩:=gN [_] [d] [v] hd (.cons L .nil);exact⟨d,l,rfl,I,O d (by simp),U 0 d v rfl rfl⟩
     grind
   obtain⟨d,l,rfl,I,h2,h3⟩:=key;obtain⟨W,O,U⟩:=pc cs l vs I J
   grind
variable {ro:Option Nat} {n:Nat} {Q:Exit->SL->Ac->Prop}
def PA{c:Code}(k:Nat){cs:List SV}{ds:List D}(V:A9 bx k=some (.cells cs))(hd:TF cs=some ds)
  (h:A0 ro P n c Q (Ms k ⟨λoff=>.A8 ds off,.acc k,.mp k⟩ sl) (Kz k ⟨λoff=>.A8 ds off,.acc k,.mp k⟩ (Cu k bx))):A0 ro P n c Q sl bx:=by
 refine A0.eH k (Ho V) (λS w β Z W=>⟨λoff v E=>?_,λv E=>E,λv E=>E,λ_=>rfl,rfl,rfl⟩) h;obtain⟨b,ty,vs,J,L,O⟩:=Z;obtain⟨q1,U,q3⟩:=pc cs ds vs hd O;have hl:=O.1;cases E with
 |box _ _ b' I =>
  rw[J]at I;cases I;have:=An.A8 (S:=S) (w:=w) (β:=β) ds off b 0 (W b J) U (λj hj=>⟨vs[j]'(by omega),by rw[cells_of_row L,Kf];simp⟩)
   (λj d v hd E=>q3 j d v hd (by rw[cells_of_row L,Kf]at E;exact E))
  grind
end Go.iA
namespace Go.iA
open Go
variable {P:Program} {sl:SL} {bx:Ac}
end Go.iA
namespace Go.iA
open Go
variable {P:Program} {sl:SL} {bx:Ac}
def aL(k:D)(kvs:List (D × D)):List (D × D):=match Fh k.lits kvs 0 with
 |some (j,_)=>kvs.eraseIdx j
 |none=>kvs
def Y7.eraseIdx{es:Array MapEntry}{E:Nat}(h:Y7 es E)(j:Nat)(L:j<es.size):Y7 (es.eraseIdxIfInBounds j) E:=by
 have I:(es.eraseIdxIfInBounds j).toList=es.toList.eraseIdx j:=by unfold Array.eraseIdxIfInBounds;rw[dif_pos L];simp
 refine⟨λx J=>?_,?_⟩;rw[I]at J;exact h.1 x ((List.eraseIdx_sublist _ _).subset J);rw[I];exact((List.eraseIdx_sublist _ _).map _).nodup h.2
def G9e{o:Oper}{ρ:Iq}{T kt et k:Nat}{m x:Operand}(ho:o.op=.call { callee:=.builtin .delete,args:=#[m,x],argTypes:=#[T,kt] }){kvs:List (D × D)}{kd:D}(hm:ρ m=.mp k)(hb:(k,Ax.map kvs)∈bx)
  (hT:P.underlying T=some (.map kt et))(W:Ny P kt=true)(hx:Nu (ρ x)=some kd)(U:E1 P kt kd)(a3:∀kv,kv∈kvs->E1 P kt kv.1) :
  C1 P o ρ bx (.tuple []) ((k,.map (aL kd kvs))::Cu k bx) []:=by
 intro C S w β a hi ha;have O:=ha m (mC ho);rw[hm]at O;have a6:=KP (ha x (mC ho)) hx;have a7:=a6.kv U.isKey;obtain⟨r,es,E,I,hh,V,a2⟩:=hi.box k _ hb;have a1:=V.1;generalize a5:a.eval m=mv at O;cases O with
 |mp _ b J =>
  rw[I]at J;cases J;obtain⟨q,hq,hf⟩:=qV W w U es.toList kvs (by omega) (QO a1 (λr kv e h1 Z=>(a2 r kv e h1 Z).1) a3);have L:=jV W es.isEmpty w U;have a0:r<w.heap.size:=(hi.Bk k _ hb r I).2.1;rw[<-a7]at hq L;unfold aL;cases a4:Fh kd.lits kvs 0 with
  |none =>
   rw[a4]at hf;simp only[Found]at hf;subst hf;obtain⟨h1,Z⟩:=yP (kvs:=kvs) hi hb I a0 es E ⟨a1,V.2⟩ a2;refine Ja ?_;unfold Oper.wp;rw[show(execOp a.eval o).run P w=.ok (.value (.tuple #[])) { w with heap:=w.heap.setIfInBounds r (.map es E) } by simp[execOp,ho,a5,resolve,invoke,builtin,Builtin.delete_,fC hT,VC hh,L,hq,MapKept.run_setObj_map _ hh]];exact⟨.tuple #[],S,β,rfl,h1,Z,.tuple [] [] rfl (by simp),λ_ _=>rfl⟩
  |some jd =>
   obtain⟨j,d⟩:=jd;rw[a4]at hf;obtain⟨e,k',_,g1,g2,rfl⟩:=hf;simp at g1 g2;have hj:j<es.size:=(U6.1 g1).1;have a8:(es.eraseIdxIfInBounds j).toList=es.toList.eraseIdx j:=by unfold Array.eraseIdxIfInBounds;rw[dif_pos hj];simp
   have a9:∀i:Nat,(es.eraseIdxIfInBounds j)[i]?=(es.toList.eraseIdx j)[i]?:=λi=>by grind
   obtain⟨h1,Z⟩:=yP (kvs:=kvs.eraseIdx j) hi hb I a0 (es.eraseIdxIfInBounds j) E ⟨by
     grind,V.2.eraseIdx j hj⟩ (by
    grind)
   refine Ja ?_;unfold Oper.wp;rw[show(execOp a.eval o).run P w=.ok (.value (.tuple #[])) { w with heap:=w.heap.setIfInBounds r (.map (es.eraseIdxIfInBounds j) E) } by simp[execOp,ho,a5,resolve,invoke,builtin,Builtin.delete_,fC hT,VC hh,L,hq,MapKept.run_setObj_map _ hh]];exact⟨.tuple #[],S,β,rfl,h1,Z,.tuple [] [] rfl (by simp),λ_ _=>rfl⟩
def kZ{dst:Option Nat}{T I et k:Nat}{m x:Operand}{kvs:List (D × D)}{O:D}(W:Aq sl m=.mp k)(V:(k,Ax.map kvs)∈bx)
  (hT:P.underlying T=some (.map I et))(J:Ny P I=true)(Z:Nu (Aq sl x)=some O)(L:E1 P I O)(E:∀kv,kv∈kvs->E1 P I kv.1) :
  QK P sl bx dst (.call ⟨.builtin .delete,#[m,x],#[T,I]⟩) (.tuple []) ((k,.map (aL O kvs))::Cu k bx) []:=λ_ U _=>G9e U W V hT J Z L E
end Go.iA
namespace Go.iA
open Go
variable {ro:Option Nat} {P:Program} {n:Nat} {Q:Exit->SL->Ac->Prop} {sl:SL} {bx:Ac}
abbrev zTy:Value:=.agg #[.string ⟨#[]⟩,.slice none 0 0,.int .i64 0]
abbrev bQ:List D:=[.str [],.nil,.int .i64 0]
abbrev DI:List D:=[.str [],.slice [],.int .i64 0]
def C1.rho{o:Oper}{ρ E:Iq}{bx bx':Ac}{r:SV}{pg:List Nat}(h:C1 P o E bx r bx' pg)(hs:∀(S:Nat->Prop)(w:World) (β:Names)(a:Act)(x:Operand),An S w β (ρ x) (a.eval x)->An S w β (E x) (a.eval x)):C1 P o ρ bx r bx' pg :=λC S w β a I J=>h C S w β a I λx L=>hs S w β a x (J x L)
def FT(ρ:Iq)(x:Operand):SV:=match x with
 |.const (.agg ⟨[.string ⟨⟨[]⟩⟩,.slice none 0 0,.int .i64 0]⟩)=>.agg (bQ.map SV.d)
 |x=>ρ x
def G8d(ρ:Iq)(S:Nat->Prop)(w:World)(β:Names)(a:Act)(x:Operand)(h:An S w β (ρ x) (a.eval x)):An S w β (FT ρ x) (a.eval x):=by
 unfold FT;split
 .refine .agg _ _ rfl (by simp[SV.one,D.one]) λj c v E I=>?_
  match j with
  |0=>cases E;cases I;exact zH S w β (.string ⟨#[]⟩)
  |1=>cases E;cases I;exact zH S w β (.slice none 0 0)
  |2=>cases E;cases I;exact zH S w β (.int .i64 0)
 omega
def uz{o:Oper}{ρ:Iq}{T e:Nat}(E:o.op=.buildSlice T 1 #[(0,.const zTy)])(hT:E9 P T=some e)(hs:Bp P e=some 3)(I:Co P e=some (bQ.map SV.d))(bx:Ac):C1 P o ρ bx (.d (.slice [DI])) bx [] :=(uo (ρ:=FT ρ) (bx:=bx) E hT hs I rfl (by decide) rfl (by rfl) (by decide)).rho (G8d ρ)
def XZ:∀(E I:List Oper)(is:List Ji),Uq (E++I) is=Uq E is++Uq I (is.drop E.length)
 |[],_,_=>rfl
 |o::E,I,is=>by rw[Kn,Uq,Uq,XZ E I is.tail,Kn,Bg];simp
variable {ops:Array Oper}
def uG{id:Nat}(ks own:List Nat)(m i T e:Nat)(is:List Ji)(hm:P.follows .mixedOrders=true)(hc:Xf ops (pC m is) (Region.before ops)=true)(hd:F6 n ops.toList=true)
  (o:Oper)(hi:ops.toList.take m=ops.toList.take i++o::(ops.toList.drop (i+1)).take (m - i - 1))(ho:o.op=.buildSlice T 1 #[(0,.const zTy)])(hg:o.guard=none)(W:(ops.toList.take i).length=i)(U:H2 (is.drop i)=⟨[],[],[],[]⟩)
  (hT:E9 P T=some e)(hs:Bp P e=some 3)(O:Co P e=some (bQ.map SV.d))
  (h:J1 P own ops (ops.toList.take i) is sl bx (λL E=>J1 P own ops ((ops.toList.drop (i+1)).take (m - i - 1)) (is.drop (i+1)) (Gt L o.dst (.d (.slice [DI]))) E (rC P own ops (ops.toList.drop m) (I1 ks (Q .normal))))):A0 ro P n (.region id ops true) Q sl bx:=by
 have I:∀l:List Oper,(∀x,x∈l->x∈ops.toList)->F6 n l=true:=λl W=>by grind[F6]
 have Z:o∈ops.toList:=Kv (i:=m) (by grind);refine XB _ _ ks hm hc hd ?_;rw[x8,hi,XZ,Uq,W,U,H3];refine XL (λL E h1=>?_) _ _ _ _ (I _ λx J=>Kv J) h;have V:(is.drop i).tail=is.drop (i+1):=by simp
 rw[V,Kn];refine⟨true,.d (.slice [DI]),E,[],by unfold Vh;rw[hg],JH (I [o] (by grind)) o (by simp),⟨λ_=>?_,(λh=>by cases h),λz U=>?_⟩,?_⟩;show C1 P o _ (Ie [] E) _ E [];rw[IE];exact uz ho hT hs O _;cases U;exact⟨by simp,by simp,by simp,by simp,by simp,by simp,by simp,by simp⟩
 .refine XL (own:=own) (K:=rC P own ops (ops.toList.drop m) (I1 ks (Q .normal))) (λa1 a0 h2=>(sH _ _ _ (I _ λx J=>SC J) h2).gen) _ _ _ _ (I _ λx J=>SC (Kv J)) ?_;have e1:∀l:SL,H0 [] l=l:=λl=>by rfl
  have e2:∀b:Ac,b++bin [] b=b:=λb=>by rw[mF,Fv]
  rw[e1];show J1 P own ops _ _ _ (E++bin [] E) _;rw[e2];exact h1
def VB{id:Nat}(ks own:List Nat)(m i T e:Nat)(is:List Ji)(hm:P.follows .mixedOrders=true)(U:Xf ops (pC m is) (Region.before ops)=true)(hd:F6 n ops.toList=true)
  (o:Oper)(Z:ops.toList.take m=ops.toList.take i++o::(ops.toList.drop (i+1)).take (m - i - 1))(W:o.op=.buildSlice T 1 #[(0,.const zTy)])(L:o.guard=none)(V:(ops.toList.take i).length=i)(O:H2 (is.drop i)=⟨[],[],[],[]⟩)
  (hT:E9 P T=some e)(hs:Bp P e=some 3)(E:Co P e=some (bQ.map SV.d))
  (h:∀K:SL->Ac->Prop,(∀sl' bx',Q .normal sl' bx'->K sl' bx')->J1 P own ops (ops.toList.take i) is sl bx (λI J=>J1 P own ops ((ops.toList.drop (i+1)).take (m - i - 1)) (is.drop (i+1)) (Gt I o.dst (.d (.slice [DI]))) J (rC P own ops (ops.toList.drop m) (I1 ks K)))):A0 ro P n (.region id ops true) Q sl bx :=
 uG ks own m i T e is hm U hd o Z W L V O hT hs E (h _ λ_ _ h=>h)
variable {C:Ctx}
def pV{Z:Exit->Act->World->Prop}(hd:∀o,o∈ops.toList->Sj n o.dst)(E:∀o,o∈ops.toList->vF o=true){K:SL->Ac->Prop}{rest:List Nat}
  (L:∀sl bx S w β a,K sl bx->St C n S w β a sl bx->wpOpsIn (FW ro) 0 P ops Z rest a w):∀(k i:Nat) (sl:SL) (bx:Ac) (S:Nat->Prop) (w:World) (β:Names) (a:Act),i+k<=ops.size->Zz P n ops ((ops.toList.drop i).take k) sl bx K ->
  St C n S w β a sl bx->wpOpsIn (FW ro) 0 P ops Z (List.range' i k++rest) a w
 |0,i,sl,bx,S,w,β,a,V,hr,hs=>L sl bx S w β a hr hs
 |k+1,i,sl,bx,S,w,β,a,V,hr,hs=>by
  have hi:i<ops.size:=by omega
  have dp:ops.toList.drop i=ops[i]::ops.toList.drop (i+1):=by rw[H7 (by omega)];simp
  rw[dp,RC]at hr;obtain⟨g,hg,J,h1,h2⟩:=hr;simp only[xW,Kn,wpOpsIn,Zk hi];have hw:=BV (a:=a) (S:=S) (w:=w) (β:=β) (λt ht=>by obtain⟨j,W,_,hj⟩:=ht;exact⟨hs.slot t,by rw[hs.size];exact oU hd hj⟩) hg
  rw[hw];cases g with
  |true =>simp only[Av];obtain⟨r,bx',pg,U,I⟩:=h1 rfl;refine gB (E _ (by simp)) (U C S w β a hs.inv λx _=>hs.Aq x) ?_;rintro a' w' ⟨v,S',β',rfl,O,he,hv,hb⟩;exact pV hd E L k (i+1) _ bx' S' w' β' _ (by omega) I (hs.put J O he hv hb)
  |false =>simp only[Iu,Gi];refine⟨λ_ _=>trivial,?_⟩;exact pV hd E L k (i+1) _ bx S w β _ (by omega) (h2 rfl) (hs.put (pg:=[]) J hs.inv (Cg.refl S w) (.tuple [] [] rfl (by simp)) (λ_ _=>rfl))
abbrev sP(rs:List (List D))(k:Nat):Qq:=⟨λoff=>.box k off,.d (.slice rs),.mp k⟩
def St.eH{S:Nat->Prop}{w:World}{β:Names}{a:Act}(k:Nat){bc:Ax}{f:Qq}(hk:(k,bc)∈bx)
  (hf:∀(S:Nat->Prop) (w:World) (β:Names),E4 S w β (β k) bc->(∀b,(β k).base=some b->S b)->VI S S w β k f)
  (hs:St C n S w β a sl bx):∃S',St C n S' w β a (Ms k f sl) (Kz k f (Cu k bx)):=by
 let S':Nat->Prop:=λb=>S b\/(β k).base=some b
 have e:Cg S w S' w:=⟨λ_ h=>.inl h,λ_ _=>rfl⟩;have E:=hs.inv;have a2:E4 S' w β (β k) bc:=(E.box k _ hk).ext e (λ_ _=>rfl) (λ_ _=>rfl);have a4:=hf S' w β a2 (λb hb=>.inr hb);have hr:VI S' S' w β k f:=a4;have a0:∀{x:SV} {v:Value},An S w β x v->An S' w β (x.sub k f) v:=λhv=>(hv.ext e (λ_ _=>rfl)).sub hr (Cg.refl _ _);refine⟨S',?_,hs.size,hs.defers.ext e,λt=>by rw[PV];exact a0 (hs.slot t)⟩;exact{
  G7:=λb hb=>.inl (E.G7 b hb)
  F9:=λb hb=>by
   rcases hb with hb|hb
   .exact E.F9 b hb
   .exact .inr (E.Bk k _ hk b hb).2.2
  C9:=λb hb=>by
   rcases hb with hb|hb
   .exact E.C9 b hb
   .exact(E.Bk k _ hk b hb).2.1
  kept:=E.kept
  os:=E.os
  tape:=E.tape
  output:=E.output
  size:=E.size
  box:=λj c U=>by
   obtain⟨x,I,rfl⟩:=Q7 U;obtain⟨a3,I⟩:=Ev.1 I;have:=E.box j x I;cases x with
   |cells cs =>obtain⟨b,ty,vs,h1,h2,h3⟩:=this;refine⟨b,ty,vs,h1,h2,?_⟩;rw[RA];refine h3.map (by simp) ?_;intro i x y v L hy hv;simp only[Df,L,Em,B8]at hy;subst hy;exact a0 hv
   |rows sz rs=>exact E4.ext (c:=.rows sz rs) this e (λ_ _=>rfl) (λ_ _=>rfl)
   |map kvs=>exact E4.ext (c:=.map kvs) this e (λ_ _=>rfl) (λ_ _=>rfl)
   |iter kvs seen=>exact E4.ext (c:=.iter kvs seen) this e (λ_ _=>rfl) (λ_ _=>rfl)
   |ghost Y st=>exact this
  Bk:=λj c U b hb=>by
   obtain⟨x,I,rfl⟩:=Q7 U;obtain⟨a3,I⟩:=Ev.1 I;obtain⟨h1,h2,h3⟩:=E.Bk j x I b hb;refine⟨λhs=>?_,h2,h3⟩;rcases hs with hs|hs
   .grind
   .exact a3 (E.inj j x k _ I hk b hb hs).1
  inj:=λj c j' c' U a1 b hb a5=>by
   obtain⟨x,I,rfl⟩:=Q7 U;obtain⟨x',L,rfl⟩:=Q7 a1;obtain⟨h1,h2⟩:=E.inj j x j' x' (Ev.1 I).2 (Ev.1 L).2 b hb a5
   grind
  Ek:=λb cs hv=>⟨.inl (E.Ek b cs hv).1,(E.Ek b cs hv).2⟩
  one:=λj Y st j' Y' st' U a1=>by
   obtain⟨x,I,J⟩:=Q7 U;obtain⟨x',L,W⟩:=Q7 a1;have e1:x=.ghost Y st:=by cases x <;> simp only[Ax.sub,reduceCtorEq]at J;exact J.symm
   have e2:x'=.ghost Y' st':=by cases x' <;> simp only[Ax.sub,reduceCtorEq]at W;exact W.symm
   subst e1;subst e2;exact E.one j Y st j' Y' st' (Ev.1 I).2 (Ev.1 L).2
  Gf:=λj Y st U=>by
   obtain⟨x,I,J⟩:=Q7 U;have a6:x=.ghost Y st:=by cases x <;> simp only[Ax.sub,reduceCtorEq]at J;exact J.symm
   subst a6;obtain⟨h1,h2,h3,h4,B,h5,h6⟩:=E.Gf j Y st (Ev.1 I).2;have a7:=E.size;have hB:∀b,B b->¬S' b:=λb hb hs=>hs.elim (h6 b hb).1 ((h6 b hb).2.2.2 k _ hk);have Z:∀V c',(V,c')∈Kz k f (Cu k bx)->∃y,(V,y)∈bx:=λV c' O=>by obtain⟨y,hy,_⟩:=Q7 O;exact⟨y,(Ev.1 hy).2⟩
   refine⟨h1,h2,h3,λV c' O=>(Z V c' O).elim λy hy=>h4 V y hy,B,h2.Xi st B S w _ w h5 ⟨λ_ h=>.inl h,λb hb=>hb.imp id λhb=>by grind,λb hb=>?_,hB,λ_ _=>rfl,rfl,rfl,rfl,Bv _⟩,λb hb=>⟨hB b hb,(h6 b hb).2.1,(h6 b hb).2.2.1,λV c' O=>(Z V c' O).elim λy hy=>(h6 b hb).2.2.2 V y hy⟩⟩
   rcases hb with hb|hb
   .exact E.C9 b hb
   .exact(E.Bk k _ hk b hb).2.1
  fix:=E.fix }
def St.Km{S:Nat->Prop}{w:World}{β:Names}{a:Act}(k:Nat){sz:Nat}{rs:List (List D)}(L:A9 bx k=some (.rows sz rs))(hs:St C n S w β a sl bx) :∃S',St C n S' w β a (Ms k (sP rs k) sl) (Kz k (sP rs k) (Cu k bx)) :=hs.eH k (Ho L) λS w β J I=>⟨λoff v E=>E,λv E=>by cases E;exact .d _ _ (J.KN I),λv E=>E,λ_=>rfl,rfl,rfl⟩
def wg(k:Nat)(I:SL)(E:Ac)(sl:SL)(bx:Ac):Prop:=∃sz rs,A9 bx k=some (.rows sz rs)/\sle (Ms k (sP rs k) sl) I/\ble (Kz k (sP rs k) (Cu k bx)) E
def pG{id:Nat}{y:Code}(ks own:List Nat)(i k:Nat)(I:SL)(E:Ac)(hi:i<=ops.size)(hd:F6 n ops.toList=true)
  (h1:G0 P own ops (ops.toList.take i) sl bx (wg k I E))
  (Z:∀K:SL->Ac->Prop,(∀sl' bx',A0 ro P n y Q sl' bx'->K sl' bx')->G0 P own ops (ops.toList.drop i) I E (I1 ks K)):A0 ro P n (.seq (.region id ops false) y) Q sl bx:=by
 have J:∀l:List Oper,(∀x,x∈l->x∈ops.toList)->F6 n l=true:=λl hl=>by grind[F6]
 refine A0.seq λC S w β a hs=>wpIn_region ?_;have hr:List.range ops.size=List.range' 0 i++List.range' i (ops.size - i):=by
  have:=@List.range'_append_1 0 i (ops.size - i);rw[Kf]at this;rw[List.range_eq_range',this]
  congr 1
  omega
 rw[hr];refine pV (JH hd) (nQ hd) (K:=wg k I E) (λa2 a0 S1 w1 β1 a1 L W=>?_) i 0 sl bx S w β a (by omega) (sH _ _ _ (J _ λx U=>Kv (by simpa using U)) (by simpa using h1)) hs;obtain⟨sz,rs,e1,e2,e3⟩:=L;obtain⟨S2,V⟩:=W.Km k e1;have h3:=sH _ _ _ (J _ λx U=>SC U) (Z _ λ_ _ h=>h);exact eR (JH hd) (nQ hd) (λsl' bx' S' w' β' a' L O=>⟨_,_,S',β',L,O.Xi ks ks⟩) (ops.size - i) i I E S2 w1 β1 a1 (by omega) h3 (V.weaken e2 e3)
end Go.iA
namespace Go.iA
open Go
variable {ro:Option Nat} {P:Program} {n:Nat} {Q:Exit->SL->Ac->Prop} {sl:SL} {bx:Ac} {o:Oper} {ρ:Iq}
def BH(P:Program)(f:FuncId)(args:List SV)(R:SV->Prop):Prop :=Enters P f/\∀(C:Ctx) (β:Names) (vs:List Value),Inv C C.S0 C.w0 β []->C7 C.S0 C.w0 β args vs ->Calls P f ⟨vs⟩ C.w0 (λe w'=>∃r v S' β',R r/\e=.returned v/\Inv C S' w' β' []/\An S' w' β' r v)
def BH.imp{f:FuncId}{args:List SV}{R E:SV->Prop}(h:BH P f args R)(hr:∀r,R r->E r):BH P f args E :=⟨h.1,λC β vs O I=>(h.2 C β vs O I).mono λ_ _ ⟨r,v,S',β',U,V,J,L⟩=>⟨r,v,S',β',hr r U,V,J,L⟩⟩
def G2s(P:Program)(fn:Func)(R:SV->Prop)(e:Exit)(sl:SL)(bx:Ac):Prop :=match e with
 |.normal| .ret=>∃xs r,Vv P bx sl fn.results.toList=some xs/\coerce bx (Xu xs)=some r/\R r
 |_=>False
def BH.NP{f:FuncId}{fn:Func}{c:Code}{args:List SV}{R:SV->Prop}(L:P.funcs[f]?=some fn)(E:fn.body=some c)(hn:(fn.name == "runtime.NumGoroutine")=false)(hm:args.length<=fn.ntmps)
  (h:A0 none P fn.ntmps c (G2s P fn R) (Ws 0 args) []):BH P f args R:=by
 refine⟨⟨fn,L,hn,by grind⟩,?_⟩;intro C β vs hi J;refine mW L E ?_;refine PC (h C C.S0 C.w0 β _ (St.start hi J hm)) ?_;rintro e O w' ⟨sl',bx',S',β',q,hs⟩;have key:(∃xs r,Vv P bx' sl' fn.results.toList=some xs/\coerce bx' (Xu xs)=some r/\R r)->LeavesInM Fence.wide 0 P fn O.tmps (λe w'=>∃r v S' β',R r/\e=.returned v/\Inv C S' w' β' []/\An S' w' β' r v) O.defers .returning w':=by
  rintro⟨xs,r,h1,W,U⟩;refine hs.leave λw' hs=>?_;obtain⟨v,h3,V⟩:=kS (P:=P) hs h1;refine⟨v,h3,r,v,λb=>S' b\/∃k c,(k,c)∈bx'/\(β' k).base=some b,β',U,rfl,?_,?_⟩
  .exact{
    G7:=λb E=>.inl (hs.inv.G7 b E)
    F9:=λb E=>by
     rcases E with E|⟨k,c,I,E⟩
     .exact hs.inv.F9 b E
     .exact .inr (hs.inv.Bk k c I b E).2.2
    C9:=λb E=>by
     rcases E with E|⟨k,c,I,E⟩
     .exact hs.inv.C9 b E
     .exact(hs.inv.Bk k c I b E).2.1
    kept:=hs.inv.kept
    os:=hs.inv.os
    tape:=hs.inv.tape
    output:=hs.inv.output
    size:=hs.inv.size
    box:=λk c I=>by grind
    Bk:=λk c I=>by grind
    inj:=λk c Z c' I=>by simp
    Ek:=λb cs J=>⟨.inl (hs.inv.Ek b cs J).1,(hs.inv.Ek b cs J).2⟩
    one:=λk Y st Z Y' st' I=>by simp
    Gf:=λk Y st I=>by grind
    fix:=hs.inv.fix }
  exact(aH hs.inv ⟨λ_ h=>.inl h,λ_ _=>rfl⟩ (λk c I b E=>.inr ⟨k,c,I,E⟩) W V).1
 cases e with
 |normal=>exact key q
 |ret=>exact key q
 |_=>exact q.elim
end Go.iA
namespace Go.iA
open Go
variable {ro:Option Nat} {P:Program} {n:Nat} {Q:Exit->SL->Ac->Prop} {sl:SL} {bx:Ac} {o:Oper} {ρ:Iq}
end Go.iA
