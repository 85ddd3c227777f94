/- (empty) -/
import Derived.Test.YtcmlfpcaeflleaaGreatDoorGAb8
import Derived.Scope
/- Function values with first arguments, as data: kept in a map, called. Own framework. -/
set_option linter.all false
set_option maxRecDepth 100000
namespace Go.Abs
open Go
variable {P:Program} {sl:SL} {bx:Aa} {o:Oper} {ρ:Hb}
def G5j{f:FuncId}(E:Enters P f){fo:Operand}{args:Array Operand}{Cq:Array TypeId}(O:o.op=.call { callee:=.value fo,args:=args,argTypes:=Cq }){a:Act}{vs:Array Value}{w:World}(L:a.eval fo=.func (.func f) vs #[]) :
  (execOp a.eval o).run P w=.ok (.enter f (vs++args.map a.eval)) w:=by
 obtain⟨fn,I,M,J⟩:=E;simp only[execOp,O,resolve,Deferred.ofValue,L,invoke,callFunc,H5,Kx,Gz,run_program,I,M,J,I6,Fy,Array.append_empty]
end Go.Abs
/- scopes through which no jump goes, labels -/
namespace Go.Abs
open Go
section
variable {P:Program} {n:Nat} {Q:Exit->SL->Aa->Prop} {sl:SL} {bx:Aa}
end
end Go.Abs
/- (empty) -/
/- Methods bound to a record of several cells, kept in an array variable. Own framework. -/
namespace Go.Abs
open Go
variable {P:Program} {sl:SL} {bx:Aa} {o:Oper} {ρ:Hb}
def A4x:SV->D->Prop
 |.d x,y=>x=y/\x.one=true
 |.Ah cells off,y=>off=0/\y=.ptr cells
 |_,_=>False
variable {x:SV} {y:D}
def E1j(h:A4x x y):x.one=true/\y.one=true:=by
 cases x <;> simp[A4x]at h
 .obtain⟨rfl,E⟩:=h;exact⟨E,E⟩
 .obtain⟨_,rfl⟩:=h;exact⟨rfl,rfl⟩
variable {S:Nat->Prop} {w:World} {β:Names}
def F0g{v:Value}(h:A4x x y)(hr:Ak S w β x v):C0 S w y v:=by
 cases x <;> simp[A4x]at h
 .obtain⟨rfl,_⟩:=h;exact hr.J0
 .obtain⟨rfl,rfl⟩:=h;obtain⟨b,base,q⟩:=hr.C1p;rw[q.v,Sx];exact .ptr _ b base q.inS q.one q.there q.rep
def G7q{v:Value}(h:A4x x y)(hr:C0 S w y v):Ak S w β x v:=by
 cases x <;> simp[A4x]at h
 .obtain⟨rfl,_⟩:=h;exact .d _ _ hr
 .obtain⟨rfl,rfl⟩:=h;cases hr with
  |ptr _ b base L E J I=>exact .Ah _ 0 b base L E J I
def A6u:List SV->List D->Prop
 |[],[]=>True
 |x::xs,y::ys=>A4x x y/\A6u xs ys
 |_,_=>False
def C8p:∀{xs:List SV} {ys:List D},A6u xs ys->xs.length=ys.length/\∀(j:Nat)(x:SV)(y:D),xs[j]?=some x->ys[j]?=some y->A4x x y
 |[],[],_=>⟨rfl,λj x y h=>by simp at h⟩
 |[],_::_,h=>h.elim
 |_::_,[],h=>h.elim
 |x::xs,y::ys,h=>by
  obtain⟨L,J⟩:=C8p h.2;refine⟨by simp[L],λj a b E I=>?_⟩
  match j with
  |0 =>simp only[Qt,B4]at E I;subst E;subst I;exact h.1
  |j+1 =>simp only[Xo]at E I;exact J j a b E I
variable {ys:List D}
def G7r{xs:List SV}{v:Value}(I:A6u xs ys)(h:Ak S w β (.agg xs) v):C0 S w (.agg ys) v:=by
 obtain⟨Z,L⟩:=C8p I;cases h with
 |agg cs vs V W M =>
  refine .agg _ _ (by omega) ?_ ?_
  .intro y O;obtain⟨j,E⟩:=N4.1 O;obtain⟨J,_⟩:=B5.1 E;exact(E1j (L j _ y (B8 (by omega:j<xs.length)) E)).2
  .intro j d x I U;obtain⟨J,_⟩:=B5.1 I;have E:=B8 (by omega:j<xs.length);exact F0g (L j _ d E I) (M j _ x E U)
def F9t{xs:List SV}{v:Value}(I:A6u xs ys)(h:C0 S w (.agg ys) v):Ak S w β (.agg xs) v:=by
 obtain⟨Z,L⟩:=C8p I;cases h with
 |agg cs vs V W M =>
  refine .agg _ _ (by omega) ?_ ?_
  .intro y O;obtain⟨j,E⟩:=N4.1 O;obtain⟨J,_⟩:=B5.1 E;exact(E1j (L j y _ E (B8 (by omega:j<ys.length)))).1
  .intro j d x I U;obtain⟨J,_⟩:=B5.1 I;have E:=B8 (by omega:j<ys.length);exact G7q (L j d _ I E) (M j _ x E U)
def B2r{f:FuncId}{x:Operand}{xs:List SV}(O:A6u xs ys)(J:o.op=.makeFunc (.func f) #[x] #[])(U:ρ x=.agg xs):Bp P o ρ bx (.d (.fn f [.agg ys])) bx []:=by
 refine Bp.Eb λC S w β a V M=>?_;have I:=M x (mC J);rw[U]at I;refine⟨.func (.func f) #[a.eval x] #[],by simp[execOp,J,Instr.makeFunc],.d _ _ (.fn f _ [a.eval x] rfl ?_)⟩;intro j d v E L
 match j with
 |0 =>simp only[Qt,B4]at E L;subst E;subst L;exact G7r O I
 |j+1=>simp at E
def D7x{f:FuncId}{fo:Operand}{args:List Operand}{Cq:List TypeId}{xs:List SV}(hd:A6u xs ys){E:List SV}{r:SV}(hf:Ao sl fo=.d (.fn f [.agg ys]))(L:G8 [] (.agg xs::args.map (Ao sl))=some E)(hc:Ac P f E r)(hr:r.closed=true) :
  OpQ P sl bx (.call ⟨.value fo,args.toArray,Cq.toArray⟩) r:=by
 intro o W C S w β a Z ha;have O:=ha fo (mC W);rw[hf]at O;have V:=O.J0;generalize a0:a.eval fo=v at V;cases V with
 |fn _ _ vs h1 h2 =>
  match vs,h1 with
  |[u],_ =>
   have hu:=F9t (β:=β) hd (h2 0 _ u rfl rfl);have U:Bv S w β (.agg xs::args.map (Ao sl)) (u::args.map a.eval):=.cons hu (Bv.U1 _ λx hx=>ha x (mo W (by simp[Op.operands,Call.operands];exact .inr hx)));have M:Inv ⟨w,S,λ_=>False,λ_ _=>False,C.G⟩ S w β []:=Z.begin Z.Bf (λ_ h=>h);obtain⟨g1,g2⟩:=W7 M (Bk.refl S w) (by simp) L U;have J:=hc.2 ⟨w,S,λ_=>False,λ_ _=>False,C.G⟩ β _ M g1;refine H6 ?_;unfold Oper.wp;rw[G5j hc.1 W a0,R6];have I:(⟨[u]⟩:Array Value)++args.toArray.map a.eval=⟨u::args.map a.eval⟩:=by apply J6;simp
   rw[I];refine J.mono ?_;rintro e w' ⟨v,S',β',rfl,hk,hv⟩;obtain⟨q1,q2⟩:=Z.back hk;have e':Bk S' w' (λb=>S b\/(S' b/\w.heap.size<=b)) w':=⟨λb hb=>by
    rcases hk.Ee b hb with h|h|h
    .exact .inl h
    .exact h.elim
    .exact .inr ⟨hb,h⟩,λ_ _=>rfl⟩
   exact⟨v,_,β,rfl,q1,q2,(hv.ext e' (λ_ _=>rfl)).closed hr,λ_ _=>rfl⟩
def C8s{T e len sz:Nat}{parts:Array (Nat × Operand)}(M:o.op=.build T parts){J:List SV}{ps:List (Nat × Nat)}{l:List (Nat × List SV)}{out:List SV}
  (hT:P.underlying T=some (.array len e))(hs:Bm P e=some sz)(hz:Cf P T=some J)(hp:∀(i:Nat) (q:Nat × Nat),ps[i]?=some q->q=(i*sz,sz))(hl:Yg ρ parts.toList=some l)(hf:A0t ps J l=some out)(W:out.all SV.one=true):Bp P o ρ bx (.agg out) bx [] :=
 .Eb λ_ S w β a _ U=>by
  obtain⟨z,E,rfl⟩:=B4g hz w;obtain⟨g1,O,_⟩:=C8w parts.toList l (λp hp=>U p.2 (mo M (by simp only[Op.operands,List.mem_toArray,B1];exact⟨p,hp,rfl⟩))) hl;obtain⟨L,Z,V⟩:=D0u (λi=>some (i*sz,sz)) ps l (parts.toList.map λp=>(p.1,a.eval p.2)) _ out _ (C6m S w β z.cells.toList) (λi q hq=>by rw[hp i q hq]) g1 O hf;refine⟨.agg ⟨L⟩,?_,Ak.A4f V W⟩;have I:z.cells=⟨z.cells.toList⟩:=rfl;have:Instr.fill (λi=>some (i*sz,sz)) z.cells (Array.map (λx=>(x.fst,a.eval x.snd)) parts).toList=some ⟨L⟩:=by rw[I,Ao5];exact Z
  simp only[execOp,M,Instr.build,H5,E,Gz,underlying,run_program,hT,Kx,Q6 hs,this]
def F2r{T e len sz:Nat}{x y:Operand}(L:o.op=.indexAddr T x y){k off:Nat}{U:IntKind}{i:Int}(hx:ρ x=.box k off)(W:ρ y=.d (.int U i))
  (hT:P.underlying T=some (.array len e))(hs:Bm P e=some sz)(O:0<=i)(V:i<len):Bp P o ρ bx (.box k (off+i.toNat*sz)) bx [] :=
 .Eb λ_ S w β a hi M=>by
  have J:=(M x (mC L));rw[hx]at J;have E:=(M y (mC L));rw[W]at E;have E:=E.J4;obtain⟨b,I,Z⟩:=J.A5i;refine⟨.pointer (some ⟨b,off+i.toNat*sz,none⟩),?_,.box _ _ _ I⟩;simp only[execOp,L,Instr.indexAt,Z,E,H5,asIntOf,Kx,Gz,underlying,run_program,hT,Instr.sureAddr,Q6 hs];simp only[O,V,and_self,Ae,H5,Q6 hs,Gz,Kx,Addr.add];split
  .rename_i hz;rw[hz,Sx]
  .rfl
def E1e{T e len sz:Nat}{x y:Operand}{k off j q:Nat}{E:IntKind}{i:Int}(O:Ao sl x=.box k off)(I:Ao sl y=.d (.int E i))(L:i=j)
  (hT:P.underlying T=some (.array len e))(hs:Bm P e=some sz)(U:j<len)(J:off+j*sz=q):OpQ P sl bx (.indexAddr T x y) (.box k q):=by
 intro o M;subst J;have h:=F2r (P:=P) (bx:=bx) (ρ:=Ao sl) M O I hT hs (by omega) (by omega);rw[L,Hs]at h;exact h
variable {ro:Option Nat} {P:Program} {n:Nat} {Q:Exit->SL->Aa->Prop} {sl:SL} {bx:Aa}
end Go.Abs
/- Closures kept as data: made, called; variables that hold addresses, frozen. Own framework. -/
namespace Go.Abs
open Go
variable {P:Program} {sl:SL} {bx:Aa} {o:Oper} {ρ:Hb}
def F3n{x y:Operand}{Cq:Array TypeId}{m n:Int}(O:Ao sl x=.d (.int .i64 m))(M:Ao sl y=.d (.int .i64 n)) :
  OpQ P sl bx (.call ⟨.builtin .min,#[x,y],Cq⟩) (.d (.int .i64 (if n<m then n else m))):=by
 intro o J;refine Bp.Eb λC S w β a U L=>?_;have E:=L x (mC J);rw[O]at E;have E:=E.J4;have I:=L y (mC J);rw[M]at I;have I:=I.J4;refine⟨.int .i64 (if n<m then n else m),?_,.d _ _ (.int _ _)⟩;simp[execOp,J,resolve,invoke,builtin,Builtin.min_,Builtin.min2,E,I]
def Ac.ptr{f:FuncId}{c:List D}{args:List SV}{r:SV}(h:Ac P f (.Ah c 0::args) r):Ac P f (.d (.ptr c)::args) r:=by
 refine⟨h.1,λC β vs O E=>h.2 C β vs O ?_⟩;cases vs with
 |nil=>exact absurd E.1 (by simp)
 |cons v vs =>
  have I:=E.2 0 _ v rfl rfl;refine .cons ?_ ?_
  .have:=I.J0;cases this with
   |ptr _ b base M J U W=>exact .Ah _ 0 b base M J U W
  .exact⟨by have:=E.1;simp at this |-;omega,λj c u V L=>E.2 (j+1) c u V L⟩
variable {ro:Option Nat} {n:Nat} {Q:Exit->SL->Aa->Prop}
end Go.Abs
/- the greater of two numbers; the address of an element of a package variable that is laid. Own framework. -/
namespace Go.Abs
open Go
variable {P:Program} {sl:SL} {bx:Aa}
end Go.Abs
/- delete from a map of one's own. Own framework. -/
namespace Go.Abs
open Go
variable {P:Program} {sl:SL} {bx:Aa}
end Go.Abs
/- a drawn region with a slice built of one zero type (a constant aggregate) -/
namespace Go.Abs
open Go
variable {ro:Option Nat} {P:Program} {n:Nat} {Q:Exit->SL->Aa->Prop} {sl:SL} {bx:Aa}
abbrev zTy:Value:=.agg #[.string ⟨#[]⟩,.slice none 0 0,.int .i64 0]
abbrev B3d:List D:=[.str [],.nil,.int .i64 0]
abbrev B2n:List D:=[.str [],.slice [],.int .i64 0]
def Bp.rho{o:Oper}{ρ E:Hb}{bx bx':Aa}{r:SV}{pg:List Nat}(h:Bp P o E bx r bx' pg)(hs:∀(S:Nat->Prop)(w:World) (β:Names)(a:Act)(x:Operand),Ak S w β (ρ x) (a.eval x)->Ak S w β (E x) (a.eval x)):Bp P o ρ bx r bx' pg :=
 λC S w β a J I=>h C S w β a J λx L=>hs S w β a x (I x L)
def B8t(ρ:Hb)(x:Operand):SV:=match x with
 |.const (.agg ⟨[.string ⟨⟨[]⟩⟩,.slice none 0 0,.int .i64 0]⟩)=>.agg (B3d.map SV.d)
 |x=>ρ x
def G1g(ρ:Hb)(S:Nat->Prop)(w:World)(β:Names)(a:Act)(x:Operand)(h:Ak S w β (ρ x) (a.eval x)):Ak S w β (B8t ρ x) (a.eval x):=by
 unfold B8t;split
 .refine .agg _ _ rfl (by simp[SV.one,D.one]) λj c v I E=>?_
  match j with
  |0=>cases I;cases E;exact A7g S w β (.string ⟨#[]⟩)
  |1=>cases I;cases E;exact A7g S w β (.slice none 0 0)
  |2=>cases I;cases E;exact A7g S w β (.int .i64 0)
 .exact h
def G0z{o:Oper}{ρ:Hb}{T e:Nat}(E:o.op=.buildSlice T 1 #[(0,.const zTy)])(hT:E4 P T=some e)(hs:Bm P e=some 3)(hz:Cf P e=some (B3d.map SV.d))(bx:Aa):Bp P o ρ bx (.d (.slice [B2n])) bx [] :=
 (D8k (ρ:=B8t ρ) (bx:=bx) E hT hs hz rfl (by decide) rfl (by have h:B8t ρ (.const zTy)=.agg (B3d.map SV.d):=rfl;simp[rowsOf,h,content,U6]) (by decide)).rho (G1g ρ)
def D5d:∀(E I:List Oper)(is:List Ja),Uw (E++I) is=Uw E is++Uw I (is.drop E.length)
 |[],_,_=>rfl
 |o::E,I,is=>by
  rw[Qp,Uw,Uw,D5d E I is.tail,Qp,C6]
  congr 3
  cases is <;> simp
def A0.F6r{id:Nat}{ops:Array Oper}(ks own:List Nat)(m i T e:Nat)(is:List Ja)(hm:P.follows .mixedOrders=true)(hc:X6 ops (Ze m is) (Region.before ops)=true)(Z:E6 n ops.toList=true)
  (o:Oper)(hi:ops.toList.take m=ops.toList.take i++o::(ops.toList.drop (i+1)).take (m - i - 1))(V:o.op=.buildSlice T 1 #[(0,.const zTy)])(hg:o.guard=none)(U:(ops.toList.take i).length=i)(hz:Gc (is.drop i)=⟨[],[],[],[]⟩)
  (hT:E4 P T=some e)(hs:Bm P e=some 3)(W:Cf P e=some (B3d.map SV.d))
  (h:Iy P own ops (ops.toList.take i) is sl bx (λM E=>Iy P own ops ((ops.toList.drop (i+1)).take (m - i - 1)) (is.drop (i+1)) (Ft M o.dst (.d (.slice [B2n]))) E (Yu P own ops (ops.toList.drop m) (He ks (Q .normal))))):A0 ro P n (.region id ops true) Q sl bx:=by
 have I:∀l:List Oper,(∀x,x∈l->x∈ops.toList)->E6 n l=true:=λl U=>by unfold E6 at*;rw[Dr]at*;exact λo V=>Z o (U o V)
 have J:o∈ops.toList:=Hh (i:=m) (by rw[hi];simp);refine A0.D7e _ _ ks hm hc Z ?_;rw[D5z,hi,D5d,Uw,U,hz,N6];refine B2z (λM E h1=>?_) _ _ _ _ (I _ λx L=>Hh L) h;have O:(is.drop i).tail=is.drop (i+1):=by simp
 rw[O,Qp];refine⟨true,.d (.slice [B2n]),E,[],by unfold N3;rw[hg],Q2 (I [o] (by simpa using J)) o (by simp),⟨λ_=>?_,(λh=>by cases h),λz hz=>?_⟩,?_⟩
 .show Bp P o _ (Ic [] E) _ E [];rw[A5a];exact G0z V hT hs W _
 .cases hz;exact⟨by simp,by simp,by simp,by simp,by simp,by simp,by simp,by simp⟩
 .refine B2z (own:=own) (K:=Yu P own ops (ops.toList.drop m) (He ks (Q .normal))) (λa1 a0 h2=>(Xk _ _ _ (I _ λx L=>X3 L) h2).gen) _ _ _ _ (I _ λx L=>X3 (Hh L)) ?_;have e1:∀l:SL,Fe [] l=l:=λl=>by simp[Fe]
  have e2:∀b:Aa,b++bin [] b=b:=λb=>by rw[A4s,I8]
  rw[e1];show Iy P own ops _ _ _ (E++bin [] E) _;rw[e2];exact h1
def A0.F8y{id:Nat}{ops:Array Oper}(ks own:List Nat)(m i T e:Nat)(is:List Ja)(M:P.follows .mixedOrders=true)(W:X6 ops (Ze m is) (Region.before ops)=true)(L:E6 n ops.toList=true)
  (o:Oper)(O:ops.toList.take m=ops.toList.take i++o::(ops.toList.drop (i+1)).take (m - i - 1))(Z:o.op=.buildSlice T 1 #[(0,.const zTy)])(U:o.guard=none)(V:(ops.toList.take i).length=i)(hz:Gc (is.drop i)=⟨[],[],[],[]⟩)
  (hT:E4 P T=some e)(hs:Bm P e=some 3)(J:Cf P e=some (B3d.map SV.d))
  (h:∀K:SL->Aa->Prop,(∀sl' bx',Q .normal sl' bx'->K sl' bx')->Iy P own ops (ops.toList.take i) is sl bx (λI E=>Iy P own ops ((ops.toList.drop (i+1)).take (m - i - 1)) (is.drop (i+1)) (Ft I o.dst (.d (.slice [B2n]))) E (Yu P own ops (ops.toList.drop m) (He ks K)))):A0 ro P n (.region id ops true) Q sl bx :=
 A0.F6r ks own m i T e is M W L o O Z U V hz hT hs J (h _ λ_ _ h=>h)
def B6m{C:Ctx}{ops:Array Oper}{QQ:Exit->Act->World->Prop}(L:∀o,o∈ops.toList->Kp n o.dst)(E:∀o,o∈ops.toList->A4k o=true){K:SL->Aa->Prop}{rest:List Nat}
  (M:∀sl bx S w β a,K sl bx->St C n S w β a sl bx->wpOpsIn (FW ro) 0 P ops QQ rest a w):∀(k i:Nat) (sl:SL) (bx:Aa) (S:Nat->Prop) (w:World) (β:Names) (a:Act),i+k<=ops.size->Z3 P n ops ((ops.toList.drop i).take k) sl bx K ->
  St C n S w β a sl bx->wpOpsIn (FW ro) 0 P ops QQ (List.range' i k++rest) a w
 |0,i,sl,bx,S,w,β,a,V,hr,hs=>M sl bx S w β a hr hs
 |k+1,i,sl,bx,S,w,β,a,V,hr,hs=>by
  have Z:i<ops.size:=by omega
  have dp:ops.toList.drop i=ops[i]::ops.toList.drop (i+1):=by rw[Ge (by simpa using Z)];simp
  rw[dp,Ia]at hr;obtain⟨g,hg,J,h1,h2⟩:=hr;simp only[Aq7,Qp,wpOpsIn,Nt Z];have hw:=B0c (a:=a) (S:=S) (w:=w) (β:=β) (λt ht=>by obtain⟨j,W,_,hj⟩:=ht;exact⟨hs.slot t,by rw[hs.size];exact A8k L hj⟩) hg
  rw[hw];cases g with
  |true =>simp only[Ae];obtain⟨r,bx',pg,U,I⟩:=h1 rfl;refine Oper.B1o (E _ (by simp)) (U C S w β a hs.inv λx _=>hs.Ao x) ?_;rintro a' w' ⟨v,S',β',rfl,O,he,hv,hb⟩;exact B6m L E M k (i+1) _ bx' S' w' β' _ (by omega) I (hs.put J O he hv hb)
  |false =>simp only[I6,Fy];refine⟨λ_ _=>trivial,?_⟩;exact B6m L E M k (i+1) _ bx S w β _ (by omega) (h2 rfl) (hs.put (pg:=[]) J hs.inv (Bk.refl S w) (.tuple [] [] rfl (by simp)) (λ_ _=>rfl))
abbrev D4d(rs:List (List D))(k:Nat):Qw:=⟨λoff=>.box k off,.d (.slice rs),.mp k⟩
def St.B0e{C:Ctx}{S:Nat->Prop}{w:World}{β:Names}{a:Act}(k:Nat){bc:Ap}{f:Qw}(hk:(k,bc)∈bx)
  (hf:∀(S:Nat->Prop) (w:World) (β:Names),Df S w β (β k) bc->(∀b,(β k).base=some b->S b)->A9f S S w β k f)
  (hs:St C n S w β a sl bx):∃S',St C n S' w β a (Mk k f sl) (Lk k f (Ca k bx)):=by
 let S':Nat->Prop:=λb=>S b\/(β k).base=some b
 have e:Bk S w S' w:=⟨λ_ h=>.inl h,λ_ _=>rfl⟩;have E:=hs.inv;have a3:Df S' w β (β k) bc:=(E.box k _ hk).ext e (λ_ _=>rfl) (λ_ _=>rfl);have a6:=hf S' w β a3 (λb hb=>.inr hb);have hr:A9f S' S' w β k f:=a6;have a0:∀{x:SV} {v:Value},Ak S w β x v->Ak S' w β (x.sub k f) v:=λhv=>(hv.ext e (λ_ _=>rfl)).sub hr (Bk.refl _ _);refine⟨S',?_,hs.size,hs.defers.ext e,λt=>by rw[C5o];exact a0 (hs.slot t)⟩;exact{
  Fg:=λb hb=>.inl (E.Fg b hb)
  Ee:=λb hb=>by
   rcases hb with hb|hb
   .exact E.Ee b hb
   .exact .inr (E.B7 k _ hk b hb).2.2
  Bf:=λb hb=>by
   rcases hb with hb|hb
   .exact E.Bf b hb
   .exact(E.B7 k _ hk b hb).2.1
  kept:=E.kept
  os:=E.os
  tape:=E.tape
  output:=E.output
  size:=E.size
  box:=λj c U=>by
   obtain⟨x,I,rfl⟩:=Pv U;obtain⟨a4,I⟩:=E3.1 I;have:=E.box j x I;cases x with
   |cells cs =>obtain⟨b,ty,vs,V,h2,h3⟩:=this;refine⟨b,ty,vs,V,h2,?_⟩;rw[SV.A5p];refine h3.map (by simp) ?_;intro i x y v L W hv;simp only[Db,L,Eu,B4]at W;subst W;exact a0 hv
   |rows sz rs=>exact Df.ext (c:=.rows sz rs) this e (λ_ _=>rfl) (λ_ _=>rfl)
   |map kvs=>exact Df.ext (c:=.map kvs) this e (λ_ _=>rfl) (λ_ _=>rfl)
   |iter kvs seen=>exact Df.ext (c:=.iter kvs seen) this e (λ_ _=>rfl) (λ_ _=>rfl)
   |ghost Y st=>exact this
  B7:=λj c U b hb=>by
   obtain⟨x,I,rfl⟩:=Pv U;obtain⟨a4,I⟩:=E3.1 I;obtain⟨V,h2,h3⟩:=E.B7 j x I b hb;refine⟨λhs=>?_,h2,h3⟩;rcases hs with hs|hs
   .exact V hs
   .exact a4 (E.inj j x k _ I hk b hb hs).1
  inj:=λj c j' c' U a2 b hb a7=>by obtain⟨x,I,rfl⟩:=Pv U;obtain⟨x',L,rfl⟩:=Pv a2;obtain⟨V,h2⟩:=E.inj j x j' x' (E3.1 I).2 (E3.1 L).2 b hb a7;exact⟨V,by rw[h2]⟩
  Dh:=λb cs hv=>⟨.inl (E.Dh b cs hv).1,(E.Dh b cs hv).2⟩
  one:=λj Y st j' Y' st' U a2=>by
   obtain⟨x,I,M⟩:=Pv U;obtain⟨x',L,a1⟩:=Pv a2;have e1:x=.ghost Y st:=by cases x <;> simp only[Ap.sub,reduceCtorEq]at M;exact M.symm
   have e2:x'=.ghost Y' st':=by cases x' <;> simp only[Ap.sub,reduceCtorEq]at a1;exact a1.symm
   subst e1;subst e2;exact E.one j Y st j' Y' st' (E3.1 I).2 (E3.1 L).2
  Fm:=λj Y st U=>by
   obtain⟨x,I,M⟩:=Pv U;have a5:x=.ghost Y st:=by cases x <;> simp only[Ap.sub,reduceCtorEq]at M;exact M.symm
   subst a5;obtain⟨V,h2,h3,h4,B,h5,h6⟩:=E.Fm j Y st (E3.1 I).2;have a8:=E.size;have hB:∀b,B b->¬S' b:=λb hb hs=>hs.elim (h6 b hb).1 ((h6 b hb).2.2.2 k _ hk);have Z:∀O c',(O,c')∈Lk k f (Ca k bx)->∃y,(O,y)∈bx:=λO c' J=>by obtain⟨y,W,_⟩:=Pv J;exact⟨y,(E3.1 W).2⟩
   refine⟨V,h2,h3,λO c' J=>(Z O c' J).elim λy W=>h4 O y W,B,h2.S9 st B S w _ w h5 ⟨λ_ h=>.inl h,λb hb=>hb.imp id λhb=>by rw[V];exact h4 k _ hk b hb,λb hb=>?_,hB,λ_ _=>rfl,rfl,rfl,rfl,Bi _⟩,
    λb hb=>⟨hB b hb,(h6 b hb).2.1,(h6 b hb).2.2.1,λO c' J=>(Z O c' J).elim λy W=>(h6 b hb).2.2.2 O y W⟩⟩
   rcases hb with hb|hb
   .exact E.Bf b hb
   .exact(E.B7 k _ hk b hb).2.1
  fix:=E.fix }
def St.Jq{C:Ctx}{S:Nat->Prop}{w:World}{β:Names}{a:Act}(k:Nat){sz:Nat}{rs:List (List D)}(L:A7 bx k=some (.rows sz rs))(hs:St C n S w β a sl bx) :
  ∃S',St C n S' w β a (Mk k (D4d rs k) sl) (Lk k (D4d rs k) (Ca k bx)) :=
 hs.B0e k (F8 L) λS w β J I=>⟨λoff v E=>E,λv E=>by cases E;exact .d _ _ (J.B2y I),λv E=>E,λ_=>rfl,rfl,rfl⟩
end Go.Abs
/- contracts with more than one possible result -/
namespace Go.Abs
open Go
variable {ro:Option Nat} {P:Program} {n:Nat} {Q:Exit->SL->Aa->Prop} {sl:SL} {bx:Aa} {o:Oper} {ρ:Hb}
def G5(P:Program)(f:FuncId)(args:List SV)(R:SV->Prop):Prop :=
 Enters P f/\∀(C:Ctx) (β:Names) (vs:List Value),Inv C C.S0 C.w0 β []->Bv C.S0 C.w0 β args vs ->
  Calls P f ⟨vs⟩ C.w0 (λe w'=>∃r v S' β',R r/\e=.returned v/\Inv C S' w' β' []/\Ak S' w' β' r v)
def Ac.toP{f:FuncId}{args:List SV}{r:SV}{R:SV->Prop}(h:Ac P f args r)(hr:R r):G5 P f args R :=
 ⟨h.1,λC β vs L M=>(h.2 C β vs L M).mono λ_ _ ⟨v,S',β',E,J,I⟩=>⟨r,v,S',β',hr,E,J,I⟩⟩
def G5.imp{f:FuncId}{args:List SV}{R E:SV->Prop}(h:G5 P f args R)(hr:∀r,R r->E r):G5 P f args E :=
 ⟨h.1,λC β vs O U=>(h.2 C β vs O U).mono λ_ _ ⟨r,v,S',β',I,J,M,L⟩=>⟨r,v,S',β',hr r I,J,M,L⟩⟩
def OpP(P:Program)(o:Oper)(ρ:Hb)(bx:Aa)(R:SV->Aa->Prop):Prop :=
 ∀(C:Ctx) (S:Nat->Prop) (w:World) (β:Names) (a:Act),Inv C S w β bx->(∀x,x∈o.op.operands->Ak S w β (ρ x) (a.eval x)) ->
  o.wpx P a w (λE w'=>∃r bx' v S' β',R r bx'/\E=a.put o.dst v/\Inv C S' w' β' bx'/\Bk S w S' w'/\Ak S' w' β' r v/\(∀k,k∉([]:List Nat)->β' k =β k))
def A0x{f:FuncId}{fo:Operand}{args:Array Operand}{Cq:Array TypeId}(V:o.op=.call { callee:=.value fo,args:=args,argTypes:=Cq }){caps E:List SV}{R:SV->Prop}
  (hf:ρ fo=.B0 f caps)(M:G8 [] (args.toList.map ρ++caps)=some E)(hc:G5 P f E R)(hr:∀r,R r->r.closed=true):OpP P o ρ bx λr bx'=>R r/\bx'=bx:=by
 intro C S w β a W ha;have J:=(ha fo (mC V));rw[hf]at J;generalize Z:a.eval fo=v at J;cases J with
 |B0 _ _ cs h1 h2 =>
  have U:Bv S w β (args.toList.map ρ++caps) (args.toList.map a.eval++cs):=(Bv.U1 _ λx hx=>ha x (mo V (by simp[Op.operands,Call.operands];simp at hx;exact .inr hx))).append ⟨h1,h2⟩;have O:Inv ⟨w,S,λ_=>False,λ_ _=>False,C.G⟩ S w β []:=W.begin W.Bf (λ_ h=>h);obtain⟨g1,g2⟩:=W7 O (Bk.refl S w) (by simp) M U;have L:=hc.2 ⟨w,S,λ_=>False,λ_ _=>False,C.G⟩ β _ O g1;refine H6 ?_;unfold Oper.wp;rw[Sp hc.1 V Z,R6];have I:args.map a.eval++(⟨cs⟩:Array Value)=⟨args.toList.map a.eval++cs⟩:=by apply J6;simp
  rw[I];refine L.mono ?_;rintro e w' ⟨r,v,S',β',h0,rfl,hk,hv⟩;obtain⟨q1,q2⟩:=W.back hk;have e':Bk S' w' (λb=>S b\/(S' b/\w.heap.size<=b)) w':=⟨λb hb=>by
   rcases hk.Ee b hb with h|h|h
   .exact .inl h
   .exact h.elim
   .exact .inr ⟨hb,h⟩,λ_ _=>rfl⟩
  exact⟨r,bx,v,_,β,⟨h0,rfl⟩,rfl,q1,q2,(hv.ext e' (λ_ _=>rfl)).closed (hr r h0),λ_ _=>rfl⟩
def A0.M0{id:Nat}{ops:Array Oper}{y:Code}(ks own:List Nat)(i:Nat)(o:Oper)(hi:ops[i]?=some o)(hg:o.guard=none)(L:E6 n ops.toList=true)
  (h:∀K:SL->Aa->Prop,(∀sl' bx',A0 ro P n y Q sl' bx'->K sl' bx')->F7 P own ops (ops.toList.take i) sl bx λE W=>∃R,OpP P o (Ao E) W R/\∀r J,R r J->F7 P own ops (ops.toList.drop (i+1)) (Ft E o.dst r) J (He ks K)) :
  A0 ro P n (.seq (.region id ops false) y) Q sl bx:=by
 have V:∀l:List Oper,(∀x,x∈l->x∈ops.toList)->E6 n l=true:=λl hl=>by unfold E6 at*;rw[Dr]at*;exact λo ho=>L o (hl o ho)
 obtain⟨a5,U⟩:=Vd.1 hi;have M:o∈ops.toList:=by rw[<-U];simp
 have h1:=h _ λ_ _ h=>h;refine A0.seq λC S w β a hs=>wpIn_region ?_;have hr:List.range ops.size=List.range' 0 i++List.range' i (ops.size - i - 1+1):=by
  have:=@List.range'_append_1 0 i (ops.size - i - 1+1);rw[Nd]at this;rw[List.range_eq_range',this]
  congr 1
  omega
 rw[hr];refine B6m (Q2 L) (Xf L) (λE W S1 w1 β1 a1 hK I=>?_) i 0 sl bx S w β a (by omega) (Xk _ _ _ (V _ λx hx=>Hh (by simpa using hx)) (by simpa using h1)) hs;obtain⟨R,a4,O⟩:=hK;simp only[Aq7,wpOpsIn,Nt a5,U];have a2:N3 ops E o=some true:=by unfold N3;rw[hg]
 have hw:=B0c (a:=a1) (S:=S1) (w:=w1) (β:=β1) (λt ht=>by obtain⟨j,a6,_,hj⟩:=ht;exact⟨I.slot t,by rw[I.size];exact A8k (Q2 L) hj⟩) a2
 rw[hw];simp only[Ae];refine Oper.B1o (Xf L o M) (a4 C S1 w1 β1 a1 I.inv λx _=>I.Ao x) ?_;rintro a' w' ⟨r,J,v,S',β',h0,rfl,a3,he,hv,hb⟩;have Z:=I.put (pg:=[]) (Q2 L o M) a3 he hv hb;have e1:Fe [] E=E:=by simp[Fe]
 rw[e1]at Z;exact A9a (Q2 L) (Xf L) (λsl' bx' S' w' β' a' hK a0=>⟨_,_,S',β',hK,a0.S9 ks ks⟩) (ops.size - i - 1) (i+1) _ _ _ _ _ _ (by omega) (Xk _ _ _ (V _ λx hx=>X3 hx) (O r J h0)) Z
def F4v(P:Program)(fn:Func)(R:SV->Prop)(e:Exit)(sl:SL)(bx:Aa):Prop :=
 match e with
 |.normal| .ret=>∃xs r,T8 P bx sl fn.results.toList=some xs/\coerce bx (T9 xs)=some r/\R r
 |_=>False
def G5.L5{f:FuncId}{fn:Func}{c:Code}{args:List SV}{R:SV->Prop}(L:P.funcs[f]?=some fn)(E:fn.body=some c)(O:(fn.name == "runtime.NumGoroutine")=false)(W:args.length<=fn.ntmps)
  (h:A0 none P fn.ntmps c (F4v P fn R) (Ua 0 args) []):G5 P f args R:=by
 refine⟨⟨fn,L,O,by rw[E];rfl⟩,?_⟩;intro C β vs hi J;refine C2z L E ?_;refine Xw (h C C.S0 C.w0 β _ (St.start hi J W)) ?_;rintro e M w' ⟨sl',bx',S',β',q,hs⟩;have key:(∃xs r,T8 P bx' sl' fn.results.toList=some xs/\coerce bx' (T9 xs)=some r/\R r)->LeavesInM Fence.wide 0 P fn M.tmps (λe w'=>∃r v S' β',R r/\e=.returned v/\Inv C S' w' β' []/\Ak S' w' β' r v) M.defers .returning w':=by
  rintro⟨xs,r,V,h2,hR⟩;refine hs.leave λw' hs=>?_;obtain⟨v,Z,U⟩:=B9t (P:=P) hs V;refine⟨v,Z,r,v,λb=>S' b\/∃k c,(k,c)∈bx'/\(β' k).base=some b,β',hR,rfl,?_,?_⟩
  .exact{
    Fg:=λb E=>.inl (hs.inv.Fg b E)
    Ee:=λb E=>by
     rcases E with E|⟨k,c,I,E⟩
     .exact hs.inv.Ee b E
     .exact .inr (hs.inv.B7 k c I b E).2.2
    Bf:=λb E=>by
     rcases E with E|⟨k,c,I,E⟩
     .exact hs.inv.Bf b E
     .exact(hs.inv.B7 k c I b E).2.1
    kept:=hs.inv.kept
    os:=hs.inv.os
    tape:=hs.inv.tape
    output:=hs.inv.output
    size:=hs.inv.size
    box:=λk c I=>by simp at I
    B7:=λk c I=>by simp at I
    inj:=λk c k' c' I=>by simp at I
    Dh:=λb cs J=>⟨.inl (hs.inv.Dh b cs J).1,(hs.inv.Dh b cs J).2⟩
    one:=λk Y st k' Y' st' I=>by simp at I
    Fm:=λk Y st I=>by simp at I
    fix:=hs.inv.fix }
  .exact(Xm hs.inv ⟨λ_ h=>.inl h,λ_ _=>rfl⟩ (λk c I b E=>.inr ⟨k,c,I,E⟩) h2 U).1
 cases e with
 |normal=>exact key q
 |ret=>exact key q
 |_=>exact q.elim
end Go.Abs
/- calls that are lent a variable and the own slice that it holds -/
namespace Go.Abs
open Go
variable {ro:Option Nat} {P:Program} {n:Nat} {Q:Exit->SL->Aa->Prop} {sl:SL} {bx:Aa} {o:Oper} {ρ:Hb}
end Go.Abs
