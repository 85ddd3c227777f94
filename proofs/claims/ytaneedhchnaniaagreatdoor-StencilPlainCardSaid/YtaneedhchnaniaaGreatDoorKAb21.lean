/- (empty) -/
import Derived.Test.YtaneedhchnaniaaGreatDoorKAb7
import Derived.Scope
/- Function values with first arguments, as data: kept in a map, called. Own framework. -/
set_option linter.all false
namespace Go.Abs
open Go
variable {P:Program} {sl:SL} {bx:Ab} {o:Oper} {ρ:Hq}
end Go.Abs
/- scopes through which no jump goes, labels -/
namespace Go.Abs
open Go
section
variable {P:Program} {n:Nat} {Q:Exit→SL→Ab→Prop} {sl:SL} {bx:Ab}
end
end Go.Abs
/- Methods bound to a record of several cells, kept in an array variable. Own framework. -/
namespace Go.Abs
open Go
variable {P:Program} {sl:SL} {bx:Ab} {o:Oper} {ρ:Hq}
def A6v:SV→D→Prop
 |.d x,y=>x=y∧x.one=true
 |.Ag cells off,y=>off=0∧y=.ptr cells
 |_,_=>False
theorem F9k {S:Nat→Prop} {w:World} {β:Names} {x:SV} {y:D} {v:Value} (h:A6v x y)(hr:Am S w β x v):Br S w y v:=by
 cases x <;> simp [A6v] at h
 ·obtain⟨rfl,_⟩:=h;exact hr.Gp
 ·obtain⟨rfl,rfl⟩:=h;obtain⟨b,base,q⟩:=hr.A9q;rw [q.v,Q6];exact .ptr _ b base q.inS q.one q.there q.rep
theorem E4k {S:Nat→Prop} {w:World} {β:Names} {x:SV} {y:D} {v:Value} (h:A6v x y)(hr:Br S w y v):Am S w β x v:=by
 cases x <;> simp [A6v] at h
 ·obtain⟨rfl,_⟩:=h;exact .d _ _ hr
 ·obtain⟨rfl,rfl⟩:=h;cases hr with
  |ptr _ b base E L I J=>exact .Ag _ 0 b base E L I J
def A9s:List SV→List D→Prop
 |[],[]=>True
 |x::xs,y::ys=>A6v x y∧A9s xs ys
 |_,_=>False
theorem C3p:∀{xs:List SV} {ys:List D},A9s xs ys→xs.length=ys.length∧∀(j:Nat)(x:SV)(y:D),xs[j]? = some x→ys[j]? = some y→A6v x y
 |[],[],_=>⟨rfl,fun j x y h=>by simp at h⟩
 |[],_::_,h=>h.elim
 |_::_,[],h=>h.elim
 |x::xs,y::ys,h=>by
  obtain⟨L,J⟩:=C3p h.2;refine⟨by simp [L],fun j a b E I=>?_⟩
  match j with
  | 0 =>simp only [Iz,Av] at E I;subst E;subst I;exact h.1
  |j+1 =>simp only [Ny] at E I;exact J j a b E I
variable {ro:Option Nat} {P:Program} {n:Nat} {Q:Exit→SL→Ab→Prop} {sl:SL} {bx:Ab}
end Go.Abs
/- Closures kept as data: made, called; variables that hold addresses, frozen. Own framework. -/
namespace Go.Abs
open Go
variable {P:Program} {sl:SL} {bx:Ab} {o:Oper} {ρ:Hq}
theorem C4x {f:FuncId} {caps:Array Operand} {xs:List SV} {ys:List D} (hd:A9s xs ys)(L:caps.toList.map (Ao sl)=xs):OpQ P sl bx (.makeFunc (.func f) #[] caps) (.d (.cl f ys)):=by
 intro o O;refine Bt.Ef fun C S w β a hi U=>?_;obtain⟨Z,V⟩:=C3p hd;have I:caps.toList.length=xs.length:=by rw [←L,B6]
 refine⟨.func (.func f) #[] ⟨caps.toList.map a.eval⟩,by rw [show (⟨caps.toList.map a.eval⟩:Array Value)=caps.map a.eval by apply I6;simp];simp [execOp,O,Instr.makeFunc],.d _ _ (.cl f _ (caps.toList.map a.eval) (by simp at I ⊢;omega) ?_)⟩;intro j d v J R;rw [D3,Ij] at R;obtain⟨x,E,rfl⟩:=R;have W:=U x (mo O (by simp [Op.operands];exact Array.mem_toList_iff.1 (Bx E)));exact F9k (V j _ d (by rw [←L,D3,E];rfl) J) W
theorem F5t {f:FuncId} {fo:Operand} {args:List Operand} {Co:List TypeId} {xs:List SV} {ys:List D} (hd:A9s xs ys) {E:List SV} {r:SV} (hf:Ao sl fo=.d (.cl f ys))(L:Gy [] (args.map (Ao sl)++xs)=some E)(W:Ac P f E r)(hr:r.closed=true) :
  OpQ P sl bx (.call ⟨.value fo,args.toArray,Co.toArray⟩) r:=by
 intro o ho C S w β a hi ha;have V:=ha fo (mC ho);rw [hf] at V;have R:=V.Gp;generalize a0:a.eval fo=v at R;cases R with
 |cl _ _ vs h1 h2 =>
  obtain⟨hl,hg⟩:=C3p hd;have O:Bm S w β xs vs:=⟨by omega,fun j c u W hu=>by obtain⟨a1,_⟩:=Ay.1 W;have hj:ys[j]? = some ys[j]:=Ba (by omega);exact E4k (hg j c _ W hj) (h2 j _ u hj hu)⟩
  have U:Bm S w β (args.map (Ao sl)++xs) (args.map a.eval++vs):=(Bm.Tk _ fun x hx=>ha x (mo ho (by simp [Op.operands,Call.operands];exact .inr hx))).append O;have Z:Inv ⟨w,S,fun _=>False,fun _ _=>False,C.G⟩ S w β []:=hi.begin hi.Bi (fun _ h=>h);obtain⟨g1,g2⟩:=Ua Z (Bo.refl S w) (by simp) L U;have J:=W.2 ⟨w,S,fun _=>False,fun _ _=>False,C.G⟩ β _ Z g1;refine He ?_;unfold Oper.wp;rw [Rn W.1 ho a0,R0];have I:args.toArray.map a.eval++(⟨vs⟩:Array Value)=⟨args.map a.eval++vs⟩:=by apply I6;simp
  rw [I];refine J.mono ?_;rintro e w' ⟨v,S',β',rfl,hk,hv⟩;obtain⟨q1,q2⟩:=hi.back hk;have e':Bo S' w' (fun b=>S b∨(S' b∧w.heap.size≤b)) w':=⟨fun b hb=>by
   rcases hk.Dx b hb with h| h| h
   ·exact .inl h
   ·exact h.elim
   ·exact .inr ⟨hb,h⟩,fun _ _=>rfl⟩
  exact⟨v,_,β,rfl,q1,q2,(hv.ext e' (fun _ _=>rfl)).closed hr,fun _ _=>rfl⟩
def W5 (P:Program)(d:D)(args:List SV)(r:SV):Prop:=∃f xs ys E,d=.cl f ys∧A9s xs ys∧Gy [] (args++xs)=some E∧Ac P f E r
theorem Zx {d:D} {fo:Operand} {args:List Operand} {Co:List TypeId} {r:SV} (L:Ao sl fo=.d d)(h:W5 P d (args.map (Ao sl)) r)(hr:r.closed=true) :
  OpQ P sl bx (.call ⟨.value fo,args.toArray,Co.toArray⟩) r:=by
 obtain⟨f,xs,ys,E,rfl,O,I,J⟩:=h;exact F5t O L I J hr
theorem Ac.ptr {f:FuncId} {c:List D} {args:List SV} {r:SV} (h:Ac P f (.Ag c 0::args) r):Ac P f (.d (.ptr c)::args) r:=by
 refine⟨h.1,fun C β vs L E=>h.2 C β vs L ?_⟩;cases vs with
 |nil=>exact absurd E.1 (by simp)
 |cons v vs =>
  have R:=E.2 0 _ v rfl rfl;refine .cons ?_ ?_
  ·have:=R.Gp;cases this with
   |ptr _ b base U W J O=>exact .Ag _ 0 b base U W J O
  ·exact⟨by have:=E.1;simp at this ⊢;omega,fun j c u V I=>E.2 (j+1) c u V I⟩
def A0k:List SV→Option (List D)
 |[]=>some []
 |.Ag c 0::r=>(A0k r).map (.ptr c::·)
 |.Bf f []::r=>(A0k r).map (.cl f []::·)
 |x::r=>match Ru [x] with
  |some [d]=>(A0k r).map (d::·)
  |_=>none
theorem D4y {S:Nat→Prop} {w:World} {β:Names}:∀(cs:List SV)(ds:List D)(vs:List Value),A0k cs=some ds→Bm S w β cs vs →
  ds.length=cs.length∧(∀d,d∈ds→d.one=true)∧∀(j:Nat) (d:D) (v:Value),ds[j]? = some d→vs[j]? = some v→Br S w d v
 |[],ds,vs,h,hr=>by simp only [A0k,Av] at h;subst h;simp
 |c::cs,ds,vs,h,hr=>by
  cases vs with
  |nil=>exact absurd hr.1 (by simp)
  |cons v vs =>
   have R:Bm S w β cs vs:=⟨by have:=hr.1;simp at this ⊢;omega,fun j c u Z J=>hr.2 (j+1) c u Z J⟩;have U:=hr.2 0 c v rfl rfl;have key:∃d l,ds=d::l∧A0k cs=some l∧d.one=true∧Br S w d v:=by
    unfold A0k at h;split at h
    ·rename_i E;cases E
    ·rename_i c' r E;cases E;rw [Ij] at h;obtain⟨l,I,rfl⟩:=h;obtain⟨b,base,q⟩:=U.A9q;refine⟨_,l,rfl,I,rfl,?_⟩;rw [q.v,Q6];exact .ptr _ b base q.inS q.one q.there q.rep
    ·rename_i f r E;cases E;rw [Ij] at h;obtain⟨l,I,rfl⟩:=h;refine⟨_,l,rfl,I,rfl,?_⟩;cases U with
     |Bf _ _ vs V L =>obtain rfl:vs=[]:=Rk (by simpa using V);exact .cl f [] [] rfl (by simp)
    ·rename_i x r _ _ E;cases E;split at h
     ·rename_i d hd;rw [Ij] at h;obtain⟨l,I,rfl⟩:=h;obtain⟨_,L,O⟩:=B0h [_] [d] [v] hd (.cons U .nil);exact⟨d,l,rfl,I,L d (by simp),O 0 d v rfl rfl⟩
     ·cases h
   obtain⟨d,l,rfl,I,W,h3⟩:=key;obtain⟨V,L,O⟩:=D4y cs l vs I R;refine⟨by simp [V],fun x hx=>?_,fun j x u hx J=>?_⟩
   ·rcases As.1 hx with rfl| hx
    ·exact W
    ·exact L x hx
   ·match j with
    | 0 =>simp only [Iz,Av] at hx J;subst hx;subst J;exact h3
    |j+1 =>simp only [Ny] at hx J;exact O j x u hx J
variable {ro:Option Nat} {n:Nat} {Q:Exit→SL→Ab→Prop}
theorem A0.C7j {c:Code} (k:Nat) {cs:List SV} {ds:List D} (V:A7 bx k=some (.cells cs))(hd:A0k cs=some ds)
  (h:A0 ro P n c Q (Ky k ⟨fun off=>.Ag ds off,.acc k,.mp k⟩ sl) (Jg k ⟨fun off=>.Ag ds off,.acc k,.mp k⟩ (C3 k bx))):A0 ro P n c Q sl bx:=by
 refine A0.A3n k (G0 V) (fun S w β W U=>⟨fun off v E=>?_,fun v E=>E,fun v E=>E,fun _=>rfl,rfl,rfl⟩) h;obtain⟨b,ty,vs,L,J,O⟩:=W;obtain⟨q1,Z,R⟩:=D4y cs ds vs hd O;have hl:=O.1;cases E with
 |box _ _ b' I =>
  rw [L] at I;cases I;have:=Am.Ag (S:=S) (w:=w) (β:=β) ds off b 0 (U b L) Z (fun j hj=>⟨vs[j]'(by omega),by rw [cells_of_row J,I2];exact Ba _⟩)
   (fun j d v hd E=>R j d v hd (by rw [cells_of_row J,I2] at E;exact E))
  simpa using this
end Go.Abs
/- the greater of two numbers; the address of an element of a package variable that is laid. Own framework. -/
namespace Go.Abs
open Go
variable {P:Program} {sl:SL} {bx:Ab}
end Go.Abs
/- delete from a map of one's own. Own framework. -/
namespace Go.Abs
open Go
variable {P:Program} {sl:SL} {bx:Ab}
end Go.Abs
/- a drawn region with a slice built of one zero type (a constant aggregate) -/
namespace Go.Abs
open Go
set_option maxRecDepth 100000
variable {ro:Option Nat} {P:Program} {n:Nat} {Q:Exit→SL→Ab→Prop} {sl:SL} {bx:Ab}
abbrev zTy:Value:=.agg #[.string ⟨#[]⟩,.slice none 0 0,.int .i64 0]
abbrev B0m:List D:=[.str [],.nil,.int .i64 0]
abbrev A6o:List D:=[.str [],.slice [],.int .i64 0]
theorem Bt.rho {o:Oper} {ρ E:Hq} {bx bx':Ab} {r:SV} {pg:List Nat} (h:Bt P o E bx r bx' pg)(hs:∀(S:Nat→Prop)(w:World) (β:Names)(a:Act)(x:Operand),Am S w β (ρ x) (a.eval x)→Am S w β (E x) (a.eval x)):Bt P o ρ bx r bx' pg :=
 fun C S w β a L I=>h C S w β a L fun x J=>hs S w β a x (I x J)
def B7g (ρ:Hq)(x:Operand):SV:=match x with
 |.const (.agg ⟨[.string ⟨⟨[]⟩⟩,.slice none 0 0,.int .i64 0]⟩)=>.agg (B0m.map SV.d)
 |x=>ρ x
theorem E5p (ρ:Hq)(S:Nat→Prop)(w:World) (β:Names)(a:Act)(x:Operand)(h:Am S w β (ρ x) (a.eval x)):Am S w β (B7g ρ x) (a.eval x):=by
 unfold B7g;split
 ·refine .agg _ _ rfl (by simp [SV.one,D.one]) fun j c v I E=>?_
  match j with
  | 0=>cases I;cases E;exact A3c S w β (.string ⟨#[]⟩)
  | 1=>cases I;cases E;exact A3c S w β (.slice none 0 0)
  | 2=>cases I;cases E;exact A3c S w β (.int .i64 0)
 ·exact h
theorem F9r {o:Oper} {ρ:Hq} {T e:Nat} (E:o.op=.buildSlice T 1 #[(0,.const zTy)])(hT:Dv P T=some e)(hs:Bs P e=some 3)(I:Cj P e=some (B0m.map SV.d))(bx:Ab):Bt P o ρ bx (.d (.slice [A6o])) bx [] :=
 (D6w (ρ:=B7g ρ) (bx:=bx) E hT hs I rfl (by decide) rfl (by have h:B7g ρ (.const zTy)=.agg (B0m.map SV.d):=rfl;simp [rowsOf,h,content,Ru]) (by decide)).rho (E5p ρ)
theorem D9j:∀(E I:List Oper)(is:List Ie),Pw (E++I) is=Pw E is++Pw I (is.drop E.length)
 |[],_,_=>rfl
 |o::E,I,is=>by
  rw [S9,Pw,Pw,D9j E I is.tail,S9,Bg]
  congr 3
  cases is <;> simp
variable {ops:Array Oper}
theorem A0.E6c {id:Nat} (ks own:List Nat)(m i T e:Nat)(is:List Ie)(hm:P.follows .mixedOrders=true)(hc:V9 ops (X4 m is) (Region.before ops)=true)(hd:E4 n ops.toList=true)
  (o:Oper) (hi:ops.toList.take m=ops.toList.take i++o::(ops.toList.drop (i+1)).take (m - i - 1)) (W:o.op=.buildSlice T 1 #[(0,.const zTy)]) (hg:o.guard=none) (U:(ops.toList.take i).length=i) (Z:Fw (is.drop i)=⟨[],[],[],[]⟩)
  (hT:Dv P T=some e) (hs:Bs P e=some 3) (R:Cj P e=some (B0m.map SV.d))
  (h:Hf P own ops (ops.toList.take i) is sl bx (fun L E=>Hf P own ops ((ops.toList.drop (i+1)).take (m - i - 1)) (is.drop (i+1)) (Fi L o.dst (.d (.slice [A6o]))) E (Wr P own ops (ops.toList.drop m) (H9 ks (Q .normal))))):A0 ro P n (.region id ops true) Q sl bx:=by
 have I:∀l:List Oper,(∀x,x∈l→x∈ops.toList)→E4 n l=true:=fun l U=>by unfold E4 at *;rw [Cf] at *;exact fun o W=>hd o (U o W)
 have O:o∈ops.toList:=Iq (i:=m) (by rw [hi];simp);refine A0.C7e _ _ ks hm hc hd ?_;rw [D2q,hi,D9j,Pw,U,Z,Pg];refine A9p (fun L E h1=>?_) _ _ _ _ (I _ fun x J=>Iq J) h;have V:(is.drop i).tail=is.drop (i+1):=by simp
 rw [V,S9];refine⟨true,.d (.slice [A6o]),E,[],by unfold Qn;rw [hg],Vm (I [o] (by simpa using O)) o (by simp),⟨fun _=>?_,(fun h=>by cases h),fun z Z=>?_⟩,?_⟩
 ·show Bt P o _ (Ho [] E) _ E [];rw [A1m];exact F9r W hT hs R _
 ·cases Z;exact⟨by simp,by simp,by simp,by simp,by simp,by simp,by simp,by simp⟩
 ·refine A9p (own:=own) (K:=Wr P own ops (ops.toList.drop m) (H9 ks (Q .normal))) (fun a1 a0 h2=>(Zf _ _ _ (I _ fun x J=>U5 J) h2).gen) _ _ _ _ (I _ fun x J=>U5 (Iq J)) ?_;have e1:∀l:SL,Fb [] l=l:=fun l=>by simp [Fb]
  have e2:∀b:Ab,b++bin [] b=b:=fun b=>by rw [A2s,Ge]
  rw [e1];show Hf P own ops _ _ _ (E++bin [] E) _;rw [e2];exact h1
theorem A0.D1o {id:Nat} (ks own:List Nat)(m i T e:Nat)(is:List Ie)(U:P.follows .mixedOrders=true)(V:V9 ops (X4 m is) (Region.before ops)=true)(hd:E4 n ops.toList=true)
  (o:Oper) (O:ops.toList.take m=ops.toList.take i++o::(ops.toList.drop (i+1)).take (m - i - 1)) (R:o.op=.buildSlice T 1 #[(0,.const zTy)]) (W:o.guard=none) (L:(ops.toList.take i).length=i) (Z:Fw (is.drop i)=⟨[],[],[],[]⟩)
  (hT:Dv P T=some e) (hs:Bs P e=some 3) (I:Cj P e=some (B0m.map SV.d))
  (h:∀K:SL→Ab→Prop,(∀sl' bx',Q .normal sl' bx'→K sl' bx')→Hf P own ops (ops.toList.take i) is sl bx (fun E J=>Hf P own ops ((ops.toList.drop (i+1)).take (m - i - 1)) (is.drop (i+1)) (Fi E o.dst (.d (.slice [A6o]))) J (Wr P own ops (ops.toList.drop m) (H9 ks K)))):A0 ro P n (.region id ops true) Q sl bx :=
 A0.E6c ks own m i T e is U V hd o O R W L Z hT hs I (h _ fun _ _ h=>h)
variable {C:Ctx}
theorem B6w {V:Exit→Act→World→Prop} (hd:∀o,o∈ops.toList→Xo n o.dst)(E:∀o,o∈ops.toList→A2f o=true) {K:SL→Ab→Prop} {rest:List Nat}
  (L:∀sl bx S w β a,K sl bx→St C n S w β a sl bx→wpOpsIn (FW ro) 0 P ops V rest a w):∀(k i:Nat) (sl:SL) (bx:Ab) (S:Nat→Prop) (w:World) (β:Names) (a:Act),i+k≤ops.size→Xh P n ops ((ops.toList.drop i).take k) sl bx K →
  St C n S w β a sl bx→wpOpsIn (FW ro) 0 P ops V (List.range' i k++rest) a w
 | 0,i,sl,bx,S,w,β,a,U,hr,hs=>L sl bx S w β a hr hs
 |k+1,i,sl,bx,S,w,β,a,U,hr,hs=>by
  have W:i < ops.size:=by omega
  have dp:ops.toList.drop i=ops[i]::ops.toList.drop (i+1):=by rw [Fy (by simpa using W)];simp
  rw [dp,Wk] at hr;obtain⟨g,hg,I,h1,h2⟩:=hr;simp only [Au0,S9,wpOpsIn,Rj W];have hw:=B4f (a:=a) (S:=S) (w:=w) (β:=β) (fun t ht=>by obtain⟨j,Z,_,hj⟩:=ht;exact⟨hs.slot t,by rw [hs.size];exact B7i hd hj⟩) hg
  rw [hw];cases g with
  |true =>simp only [Af];obtain⟨r,bx',pg,R,J⟩:=h1 rfl;refine Oper.B3r (E _ (by simp)) (R C S w β a hs.inv fun x _=>hs.Ao x) ?_;rintro a' w' ⟨v,S',β',rfl,O,he,hv,hb⟩;exact B6w hd E L k (i+1) _ bx' S' w' β' _ (by omega) J (hs.put I O he hv hb)
  |false =>simp only [Hh,Et];refine⟨fun _ _=>trivial,?_⟩;exact B6w hd E L k (i+1) _ bx S w β _ (by omega) (h2 rfl) (hs.put (pg:=[]) I hs.inv (Bo.refl S w) (.tuple [] [] rfl (by simp)) (fun _ _=>rfl))
abbrev B7h (rs:List (List D))(k:Nat):Pq:=⟨fun off=>.box k off,.d (.slice rs),.mp k⟩
theorem St.A3n {S:Nat→Prop} {w:World} {β:Names} {a:Act} (k:Nat) {bc:Ar} {f:Pq} (hk:(k,bc)∈bx)
  (hf:∀(S:Nat→Prop) (w:World) (β:Names),Dh S w β (β k) bc→(∀b,(β k).base=some b→S b)→A8a S S w β k f)
  (hs:St C n S w β a sl bx):∃S',St C n S' w β a (Ky k f sl) (Jg k f (C3 k bx)):=by
 let S':Nat→Prop:=fun b=>S b∨(β k).base=some b
 have e:Bo S w S' w:=⟨fun _ h=>.inl h,fun _ _=>rfl⟩;have E:=hs.inv;have a2:Dh S' w β (β k) bc:=(E.box k _ hk).ext e (fun _ _=>rfl) (fun _ _=>rfl);have a6:=hf S' w β a2 (fun b hb=>.inr hb);have hr:A8a S' S' w β k f:=a6;have Z:∀{x:SV} {v:Value},Am S w β x v→Am S' w β (x.sub k f) v:=fun hv=>(hv.ext e (fun _ _=>rfl)).sub hr (Bo.refl _ _);refine⟨S',?_,hs.size,hs.defers.ext e,fun t=>by rw [C2x];exact Z (hs.slot t)⟩;exact {
  Ek:=fun b hb=>.inl (E.Ek b hb)
  Dx:=fun b hb=>by
   rcases hb with hb| hb
   ·exact E.Dx b hb
   ·exact .inr (E.B8 k _ hk b hb).2.2
  Bi:=fun b hb=>by
   rcases hb with hb| hb
   ·exact E.Bi b hb
   ·exact (E.B8 k _ hk b hb).2.1
  kept:=E.kept
  os:=E.os
  tape:=E.tape
  output:=E.output
  size:=E.size
  box:=fun j c U=>by
   obtain⟨x,I,rfl⟩:=P3 U;obtain⟨a4,I⟩:=Dq.1 I;have:=E.box j x I;cases x with
   |cells cs =>obtain⟨b,ty,vs,W,h2,h3⟩:=this;refine⟨b,ty,vs,W,h2,?_⟩;rw [SV.A3k];refine h3.map (by simp) ?_;intro i x y v O hy hv;simp only [D3,O,E8,Av] at hy;subst hy;exact Z hv
   |rows sz rs=>exact Dh.ext (c:=.rows sz rs) this e (fun _ _=>rfl) (fun _ _=>rfl)
   |map kvs=>exact Dh.ext (c:=.map kvs) this e (fun _ _=>rfl) (fun _ _=>rfl)
   |iter kvs seen=>exact Dh.ext (c:=.iter kvs seen) this e (fun _ _=>rfl) (fun _ _=>rfl)
   |ghost Y st=>exact this
  B8:=fun j c U b hb=>by
   obtain⟨x,I,rfl⟩:=P3 U;obtain⟨a4,I⟩:=Dq.1 I;obtain⟨W,h2,h3⟩:=E.B8 j x I b hb;refine⟨fun hs=>?_,h2,h3⟩;rcases hs with hs| hs
   ·exact W hs
   ·exact a4 (E.inj j x k _ I hk b hb hs).1
  inj:=fun j c j' c' U a1 b hb a5=>by obtain⟨x,I,rfl⟩:=P3 U;obtain⟨x',O,rfl⟩:=P3 a1;obtain⟨W,h2⟩:=E.inj j x j' x' (Dq.1 I).2 (Dq.1 O).2 b hb a5;exact⟨W,by rw [h2]⟩
  D9:=fun b cs hv=>⟨.inl (E.D9 b cs hv).1,(E.D9 b cs hv).2⟩
  one:=fun j Y st j' Y' a3 U a1=>by
   obtain⟨x,I,L⟩:=P3 U;obtain⟨x',O,V⟩:=P3 a1;have e1:x=.ghost Y st:=by cases x <;> simp only [Ar.sub,reduceCtorEq] at L;exact L.symm
   have e2:x'=.ghost Y' a3:=by cases x' <;> simp only [Ar.sub,reduceCtorEq] at V;exact V.symm
   subst e1;subst e2;exact E.one j Y st j' Y' a3 (Dq.1 I).2 (Dq.1 O).2
  Ez:=fun j Y st U=>by
   obtain⟨x,I,L⟩:=P3 U;have a7:x=.ghost Y st:=by cases x <;> simp only [Ar.sub,reduceCtorEq] at L;exact L.symm
   subst a7;obtain⟨W,h2,h3,h4,B,h5,h6⟩:=E.Ez j Y st (Dq.1 I).2;have a8:=E.size;have hB:∀b,B b→¬S' b:=fun b hb hs=>hs.elim (h6 b hb).1 ((h6 b hb).2.2.2 k _ hk);have a0:∀R c',(R,c')∈Jg k f (C3 k bx)→∃y,(R,y)∈bx:=fun R c' J=>by obtain⟨y,hy,_⟩:=P3 J;exact⟨y,(Dq.1 hy).2⟩
   refine⟨W,h2,h3,fun R c' J=>(a0 R c' J).elim fun y hy=>h4 R y hy,B,h2.Sf st B S w _ w h5 ⟨fun _ h=>.inl h,fun b hb=>hb.imp id fun hb=>by rw [W];exact h4 k _ hk b hb,fun b hb=>?_,hB,fun _ _=>rfl,rfl,rfl,rfl,Cq _⟩,
    fun b hb=>⟨hB b hb,(h6 b hb).2.1,(h6 b hb).2.2.1,fun R c' J=>(a0 R c' J).elim fun y hy=>(h6 b hb).2.2.2 R y hy⟩⟩
   rcases hb with hb| hb
   ·exact E.Bi b hb
   ·exact (E.B8 k _ hk b hb).2.1
  fix:=E.fix }
theorem St.Kx {S:Nat→Prop} {w:World} {β:Names} {a:Act} (k:Nat) {sz:Nat} {rs:List (List D)} (J:A7 bx k=some (.rows sz rs))(hs:St C n S w β a sl bx) :
  ∃S',St C n S' w β a (Ky k (B7h rs k) sl) (Jg k (B7h rs k) (C3 k bx)) :=
 hs.A3n k (G0 J) fun S w β L I=>⟨fun off v E=>E,fun v E=>by cases E;exact .d _ _ (L.A9y I),fun v E=>E,fun _=>rfl,rfl,rfl⟩
def D8e (k:Nat)(I:SL)(E:Ab)(sl:SL)(bx:Ab):Prop:=∃sz rs,A7 bx k=some (.rows sz rs)∧sle (Ky k (B7h rs k) sl) I∧ble (Jg k (B7h rs k) (C3 k bx)) E
theorem A0.F6k {id:Nat} {y:Code} (ks own:List Nat)(i k:Nat)(I:SL)(E:Ab)(hi:i≤ops.size)(hd:E4 n ops.toList=true)
  (Z:Ee P own ops (ops.toList.take i) sl bx (D8e k I E))
  (h2:∀K:SL→Ab→Prop,(∀sl' bx',A0 ro P n y Q sl' bx'→K sl' bx')→Ee P own ops (ops.toList.drop i) I E (H9 ks K)):A0 ro P n (.seq (.region id ops false) y) Q sl bx:=by
 have J:∀l:List Oper,(∀x,x∈l→x∈ops.toList)→E4 n l=true:=fun l hl=>by unfold E4 at *;rw [Cf] at *;exact fun o ho=>hd o (hl o ho)
 refine A0.seq fun C S w β a hs=>wpIn_region ?_;have hr:List.range ops.size=List.range' 0 i++List.range' i (ops.size - i):=by
  have:=@List.range'_append_1 0 i (ops.size - i);rw [I2] at this;rw [List.range_eq_range',this]
  congr 1
  omega
 rw [hr];refine B6w (Vm hd) (A3q hd) (K:=D8e k I E) (fun a0 a2 S1 w1 W a1 O V=>?_) i 0 sl bx S w β a (by omega) (Zf _ _ _ (J _ fun x R=>Iq (by simpa using R)) (by simpa using Z)) hs;obtain⟨sz,rs,e1,e2,e3⟩:=O;obtain⟨S2,L⟩:=V.Kx k e1;have h3:=Zf _ _ _ (J _ fun x R=>U5 R) (h2 _ fun _ _ h=>h);exact B2r (Vm hd) (A3q hd) (fun sl' bx' S' w' β' a' O U=>⟨_,_,S',β',O,U.Sf ks ks⟩) (ops.size - i) i I E S2 w1 W a1 (by omega) h3 (L.weaken e2 e3)
end Go.Abs
/- contracts with more than one possible result -/
namespace Go.Abs
open Go
variable {ro:Option Nat} {P:Program} {n:Nat} {Q:Exit→SL→Ab→Prop} {sl:SL} {bx:Ab} {o:Oper} {ρ:Hq}
def R9 (P:Program)(f:FuncId)(args:List SV)(R:SV→Prop):Prop :=
 Enters P f∧∀(C:Ctx) (β:Names) (vs:List Value),Inv C C.S0 C.w0 β []→Bm C.S0 C.w0 β args vs →
  Calls P f ⟨vs⟩ C.w0 (fun e w'=>∃r v S' β',R r∧e=.returned v∧Inv C S' w' β' []∧Am S' w' β' r v)
theorem R9.imp {f:FuncId} {args:List SV} {R E:SV→Prop} (h:R9 P f args R)(hr:∀r,R r→E r):R9 P f args E :=
 ⟨h.1,fun C β vs J U=>(h.2 C β vs J U).mono fun _ _ ⟨r,v,S',β',L,V,I,O⟩=>⟨r,v,S',β',hr r L,V,I,O⟩⟩
def OpP (P:Program)(o:Oper) (ρ:Hq)(bx:Ab)(R:SV→Ab→Prop):Prop :=
 ∀(C:Ctx) (S:Nat→Prop) (w:World) (β:Names) (a:Act),Inv C S w β bx→(∀x,x∈o.op.operands→Am S w β (ρ x) (a.eval x)) →
  o.wpx P a w (fun E w'=>∃r bx' v S' β',R r bx'∧E=a.put o.dst v∧Inv C S' w' β' bx'∧Bo S w S' w'∧Am S' w' β' r v∧(∀k,k ∉ ([]:List Nat)→β' k = β k))
theorem E4w {f:FuncId} {fo:Operand} {args:Array Operand} {Co:Array TypeId} (Z:o.op=.call { callee:=.value fo,args:=args,argTypes:=Co }) {caps E:List SV} {R:SV→Prop}
  (hf:ρ fo=.Bf f caps) (O:Gy [] (args.toList.map ρ++caps)=some E) (hc:R9 P f E R) (hr:∀r,R r→r.closed=true):OpP P o ρ bx fun r bx'=>R r∧bx'=bx:=by
 intro C S w β a W ha;have J:=(ha fo (mC Z));rw [hf] at J;generalize a0:a.eval fo=v at J;cases J with
 |Bf _ _ cs h1 h2 =>
  have U:Bm S w β (args.toList.map ρ++caps) (args.toList.map a.eval++cs):=(Bm.Tk _ fun x hx=>ha x (mo Z (by simp [Op.operands,Call.operands];simp at hx;exact .inr hx))).append ⟨h1,h2⟩;have V:Inv ⟨w,S,fun _=>False,fun _ _=>False,C.G⟩ S w β []:=W.begin W.Bi (fun _ h=>h);obtain⟨g1,g2⟩:=Ua V (Bo.refl S w) (by simp) O U;have L:=hc.2 ⟨w,S,fun _=>False,fun _ _=>False,C.G⟩ β _ V g1;refine He ?_;unfold Oper.wp;rw [Rn hc.1 Z a0,R0];have I:args.map a.eval++(⟨cs⟩:Array Value)=⟨args.toList.map a.eval++cs⟩:=by apply I6;simp
  rw [I];refine L.mono ?_;rintro e w' ⟨r,v,S',β',h0,rfl,hk,hv⟩;obtain⟨q1,q2⟩:=W.back hk;have e':Bo S' w' (fun b=>S b∨(S' b∧w.heap.size≤b)) w':=⟨fun b hb=>by
   rcases hk.Dx b hb with h| h| h
   ·exact .inl h
   ·exact h.elim
   ·exact .inr ⟨hb,h⟩,fun _ _=>rfl⟩
  exact⟨r,bx,v,_,β,⟨h0,rfl⟩,rfl,q1,q2,(hv.ext e' (fun _ _=>rfl)).closed (hr r h0),fun _ _=>rfl⟩
theorem A0.C3c {id:Nat} {ops:Array Oper} {y:Code} (ks own:List Nat)(i:Nat)(o:Oper)(hi:ops[i]? = some o)(hg:o.guard=none)(hd:E4 n ops.toList=true)
  (h:∀K:SL→Ab→Prop,(∀sl' bx',A0 ro P n y Q sl' bx'→K sl' bx')→Ee P own ops (ops.toList.take i) sl bx fun E Z=>∃R,OpP P o (Ao E) Z R∧∀r J,R r J→Ee P own ops (ops.toList.drop (i+1)) (Fi E o.dst r) J (H9 ks K)) :
  A0 ro P n (.seq (.region id ops false) y) Q sl bx:=by
 have V:∀l:List Oper,(∀x,x∈l→x∈ops.toList)→E4 n l=true:=fun l hl=>by unfold E4 at *;rw [Cf] at *;exact fun o ho=>hd o (hl o ho)
 obtain⟨a5,W⟩:=X6.1 hi;have L:o∈ops.toList:=by rw [←W];simp
 have h1:=h _ fun _ _ h=>h;refine A0.seq fun C S w β a hs=>wpIn_region ?_;have hr:List.range ops.size=List.range' 0 i++List.range' i (ops.size - i - 1+1):=by
  have:=@List.range'_append_1 0 i (ops.size - i - 1+1);rw [I2] at this;rw [List.range_eq_range',this]
  congr 1
  omega
 rw [hr];refine B6w (Vm hd) (A3q hd) (fun E Z S1 w1 β1 a1 hK I=>?_) i 0 sl bx S w β a (by omega) (Zf _ _ _ (V _ fun x hx=>Iq (by simpa using hx)) (by simpa using h1)) hs;obtain⟨R,a4,O⟩:=hK;simp only [Au0,wpOpsIn,Rj a5,W];have a3:Qn ops E o=some true:=by unfold Qn;rw [hg]
 have hw:=B4f (a:=a1) (S:=S1) (w:=w1) (β:=β1) (fun t ht=>by obtain⟨j,a6,_,hj⟩:=ht;exact⟨I.slot t,by rw [I.size];exact B7i (Vm hd) hj⟩) a3
 rw [hw];simp only [Af];refine Oper.B3r (A3q hd o L) (a4 C S1 w1 β1 a1 I.inv fun x _=>I.Ao x) ?_;rintro a' w' ⟨r,J,v,S',β',h0,rfl,a2,he,hv,hb⟩;have U:=I.put (pg:=[]) (Vm hd o L) a2 he hv hb;have e1:Fb [] E=E:=by simp [Fb]
 rw [e1] at U;exact B2r (Vm hd) (A3q hd) (fun sl' bx' S' w' β' a' hK a0=>⟨_,_,S',β',hK,a0.Sf ks ks⟩) (ops.size - i - 1) (i+1) _ _ _ _ _ _ (by omega) (Zf _ _ _ (V _ fun x hx=>U5 hx) (O r J h0)) U
def F6s (P:Program)(fn:Func)(R:SV→Prop)(e:Exit)(sl:SL)(bx:Ab):Prop :=
 match e with
 |.normal| .ret=>∃xs r,U9 P bx sl fn.results.toList=some xs∧coerce bx (Xy xs)=some r∧R r
 |_=>False
theorem R9.A7y {f:FuncId} {fn:Func} {c:Code} {args:List SV} {R:SV→Prop} (O:P.funcs[f]? = some fn)(E:fn.body=some c)(hn:(fn.name == "runtime.NumGoroutine")=false)(hm:args.length≤fn.ntmps)
  (h:A0 none P fn.ntmps c (F6s P fn R) (Uc 0 args) []):R9 P f args R:=by
 refine⟨⟨fn,O,hn,by rw [E];rfl⟩,?_⟩;intro C β vs W J;refine C0h O E ?_;refine At5 (h C C.S0 C.w0 β _ (St.start W J hm)) ?_;rintro e L w' ⟨sl',bx',S',β',q,hs⟩;have key:(∃xs r,U9 P bx' sl' fn.results.toList=some xs∧coerce bx' (Xy xs)=some r∧R r)→LeavesInM Fence.wide 0 P fn L.tmps (fun e w'=>∃r v S' β',R r∧e=.returned v∧Inv C S' w' β' []∧Am S' w' β' r v) L.defers .returning w':=by
  rintro⟨xs,r,h1,V,Z⟩;refine hs.leave fun w' hs=>?_;obtain⟨v,h3,h4⟩:=C2y (P:=P) hs h1;refine⟨v,h3,r,v,fun b=>S' b∨∃k c,(k,c)∈bx'∧(β' k).base=some b,β',Z,rfl,?_,?_⟩
  ·exact {
    Ek:=fun b E=>.inl (hs.inv.Ek b E)
    Dx:=fun b E=>by
     rcases E with E| ⟨k,c,I,E⟩
     ·exact hs.inv.Dx b E
     ·exact .inr (hs.inv.B8 k c I b E).2.2
    Bi:=fun b E=>by
     rcases E with E| ⟨k,c,I,E⟩
     ·exact hs.inv.Bi b E
     ·exact (hs.inv.B8 k c I b E).2.1
    kept:=hs.inv.kept
    os:=hs.inv.os
    tape:=hs.inv.tape
    output:=hs.inv.output
    size:=hs.inv.size
    box:=fun k c I=>by simp at I
    B8:=fun k c I=>by simp at I
    inj:=fun k c k' c' I=>by simp at I
    D9:=fun b cs J=>⟨.inl (hs.inv.D9 b cs J).1,(hs.inv.D9 b cs J).2⟩
    one:=fun k Y st k' Y' U I=>by simp at I
    Ez:=fun k Y st I=>by simp at I
    fix:=hs.inv.fix }
  ·exact (A5e hs.inv ⟨fun _ h=>.inl h,fun _ _=>rfl⟩ (fun k c I b E=>.inr ⟨k,c,I,E⟩) V h4).1
 cases e with
 |normal=>exact key q
 |ret=>exact key q
 |_=>exact q.elim
end Go.Abs
/- calls that are lent a variable and the own slice that it holds -/
namespace Go.Abs
open Go
variable {ro:Option Nat} {P:Program} {n:Nat} {Q:Exit→SL→Ab→Prop} {sl:SL} {bx:Ab} {o:Oper} {ρ:Hq}
theorem D0a {S S':Nat→Prop} {w w':World} {β β':Names} {q j:Nat} {cs:List SV} {vs:List Value} (h:Bm S w β (.acc q::cs) vs)(e:Bo S w S' w')(O:β' j = β q)(L:SV.Jb cs=true):Bm S' w' β' (.acc j::cs) vs:=by
 refine⟨by have:=h.1;simpa using this,fun i c v E J=>?_⟩;cases i with
 |zero =>simp only [Iz,Av] at E;subst E;have I:=h.2 0 (.acc q) v rfl J;cases I;rw [←O];exact .acc j
 |succ i =>have I:=h.2 (i+1) c v (by simpa using E) J;exact (I.ext (β':=β) e (fun _ _=>rfl)).closed (SV.B2e L i c (by simpa using E))
theorem G3d {f:FuncId} {fo:Operand} {args:Array Operand} {Co:Array TypeId} (ho:o.op=.call { callee:=.value fo,args:=args,argTypes:=Co }) {caps a0:List SV} {r:SV} {k q sz:Nat} {cs cs':List SV} {rs a4:List (List D)}
  (hf:ρ fo=.Bf f caps) (hb:(k,Ar.cells (.acc q::cs))∈bx) (hq:(q,Ar.rows sz rs)∈bx) (a2:k≠q) (be:q < 1000000) (b3:SV.Jb cs=true) (az:SV.Jb cs'=true)
  (b5:∀I V,(I,V)∈bx→I≠k→V.has q=false) (aa:∀I V,(I,V)∈bx→V.real=true)
  (am:W0 k 1000000 (args.toList.map ρ++caps)=some a0) (h7:SV.Hi 7 a0=false)
  (hc:Cd P f a0 [(1000000,.cells (.acc 7::cs)),(7,.rows sz rs)] r [(1000000,.cells (.acc 7::cs')),(7,.rows sz a4)]) (hr:r.closed=true) :
  Bt P o ρ bx r ((k,.cells (.acc q::cs'))::(q,.rows sz a4)::C3 k (C3 q bx)) [q]:=by
 intro C S w β a R ha;have ah:=(ha fo (mC ho));rw [hf] at ah;generalize bc:a.eval fo=v at ah;cases ah with
 |Bf _ _ ae h1 h2 =>
  have aw:Bm S w β (args.toList.map ρ++caps) (args.toList.map a.eval++ae):=(Bm.Tk _ fun x hx=>ha x (mo ho (by simp [Op.operands,Call.operands];simp at hx;exact .inr hx))).append ⟨h1,h2⟩;have ar:Inv ⟨w,S,fun _=>False,fun _ _=>False,C.G⟩ S w β []:=R.begin R.Bi (fun _ h=>h);have g0:=B8x (j:=1000000) ar am aw;obtain⟨β1,ai⟩:∃β1,β1=E3 (E3 β 1000000 (β k)) 7 (β q):=⟨_,rfl⟩;have a':β1 1000000 = β k:=by rw [ai,Jk (by decide),G8]
  have a9:β1 7 = β q:=by rw [ai,G8]
  have g1:Bm S w β1 a0 (args.toList.map a.eval++ae):=⟨g0.1,fun i c v av hv=>(g0.2 i c v av hv).ext (Bo.refl S w) fun x hx=>by
   have b9:x≠7:=by rintro rfl;rw [SV.A1n h7 i c av] at hx;simp at hx
   rw [ai,Jk b9]⟩
  have hp:=R.B8 k _ hb;have a8:=R.B8 q _ hq;have b2:=R.box k _ hb;have b4:=R.box q _ hq;have b6:Inv ⟨w,S,fun i=>(β k).base=some i∨(β q).base=some i,fun i x=>i=1000000∧x = β k,C.G⟩ S w β1 [(1000000,.cells (.acc 7::cs)),(7,.rows sz rs)]:={
   Ek:=fun _ h=>h
   Dx:=fun _ h=>.inl h
   Bi:=R.Bi
   kept:=fun _ _ _=>rfl
   os:=rfl
   tape:=rfl
   output:=rfl
   size:=Cq _
   box:=fun I b0 a1=>by
    simp only [As,Df,Dt,Du] at a1;rcases a1 with ⟨rfl,rfl⟩| ⟨rfl,rfl⟩
    ·rw [a'];obtain⟨b,ty,vs,e1,e2,e3⟩:=b2;exact⟨b,ty,vs,e1,e2,D0a e3 (Bo.refl S w) a9 b3⟩
    ·rw [a9];exact b4
   B8:=fun I b0 a1 W E=>by
    simp only [As,Df,Dt,Du] at a1;rcases a1 with ⟨rfl,rfl⟩| ⟨rfl,rfl⟩
    ·rw [a'] at E;exact⟨(hp W E).1,(hp W E).2.1,.inl (.inl E)⟩
    ·rw [a9] at E;exact⟨(a8 W E).1,(a8 W E).2.1,.inl (.inr E)⟩
   inj:=fun k1 c1 k2 c2 h1 h2 W O J=>by
    simp only [As,Df,Dt,Du] at h1 h2;rcases h1 with ⟨rfl,rfl⟩| ⟨rfl,rfl⟩ <;> rcases h2 with ⟨rfl,rfl⟩| ⟨rfl,rfl⟩
    ·exact⟨rfl,rfl⟩
    ·rw [a'] at O;rw [a9] at J;exact absurd (R.inj k _ q _ hb hq W O J).1 a2
    ·rw [a9] at O;rw [a'] at J;exact absurd (R.inj k _ q _ hb hq W J O).1 a2
    ·exact⟨rfl,rfl⟩
   D9:=R.D9
   one:=fun I Y st ba Y' b8 a1=>by simp at a1
   Ez:=fun I Y st a1=>by simp at a1
   fix:=fun I W h=>by obtain⟨rfl,rfl⟩:=h;exact⟨Cq _,a'⟩ }
  have ak:=hc.2 ⟨w,S,fun i=>(β k).base=some i∨(β q).base=some i,fun i x=>i=1000000∧x = β k,C.G⟩ _ _ b6 g1;refine He ?_;unfold Oper.wp;rw [Rn hc.1 ho bc,R0];have ab:args.map a.eval++(⟨ae⟩:Array Value)=⟨args.toList.map a.eval++ae⟩:=by apply I6;simp
  rw [ab];refine ak.mono ?_;rintro e w' ⟨v,S',β',rfl,hk,hv⟩;have ac:β' 1000000 = β k:=(hk.fix 1000000 _ ⟨rfl,rfl⟩).2;have aq:∀b,(β k).base=some b→¬S' b∧b < w'.heap.size:=fun b E=>by have:=hk.B8 1000000 (.cells (.acc 7::cs')) (by simp) b (by rw [ac];exact E);exact⟨this.1,this.2.1⟩
  have ax:=hk.B8 7 (.rows sz a4) (by simp);have b1:w.heap.size≤w'.heap.size:=hk.size;have a5:∀W,W < w.heap.size→(β k).base≠some W→(β q).base≠some W→w'.heap[W]? = w.heap[W]?:=fun W h1 h2 h3=>hk.kept W h1 (fun h=>h.elim h2 h3);obtain⟨S2,ad⟩:∃S2:Nat→Prop,S2=fun b=>S b∨(S' b∧(w.heap.size≤b∨(β q).base=some b)):=⟨_,rfl⟩;have a7:∀b,S b→S2 b:=fun b h=>by rw [ad];exact .inl h
  have a3:∀b,S2 b→S b∨(S' b∧(w.heap.size≤b∨(β q).base=some b)):=fun b h=>by rw [ad] at h;exact h
  have e1:Bo S w S2 w':=⟨a7,fun W E=>a5 W (R.Bi W E) (fun he=>(hp W he).1 E) fun he=>(a8 W he).1 E⟩;have e2:Bo S' w' S2 w':=⟨fun W E=>by
   rcases hk.Dx W E with h| h| h
   ·exact a7 W h
   ·rcases h with h| h
    ·exact ((aq W h).1 E).elim
    ·rw [ad];exact .inr ⟨E,.inr h⟩
   ·rw [ad];exact .inr ⟨E,.inl h⟩,fun _ _=>rfl⟩
  obtain⟨β2,as⟩:∃β2,β2=E3 β q (β' 7):=⟨_,rfl⟩;have Z:β2 q = β' 7:=by rw [as,G8]
  have J:∀x,x≠q→β2 x = β x:=fun x hx=>by rw [as,Jk hx]
  have U:∀I V,(I,V)∈((k,Ar.cells (.acc q::cs'))::(q,Ar.rows sz a4)::C3 k (C3 q bx))→(I=k∧V=.cells (.acc q::cs'))∨(I=q∧V=.rows sz a4)∨(I≠k∧I≠q∧(I,V)∈bx):=fun I V h=>by
   simp only [As,Df] at h;rcases h with h| h| h
   ·exact .inl h
   ·exact .inr (.inl h)
   ·obtain⟨n1,h⟩:=Dq.1 h;obtain⟨n2,h⟩:=Dq.1 h;exact .inr (.inr ⟨n1,n2,h⟩)
  have aj:∀I V,(I,V)∈((k,Ar.cells (.acc q::cs'))::(q,Ar.rows sz a4)::C3 k (C3 q bx))→∀b,(β2 I).base=some b→¬S2 b∧b < w'.heap.size∧(C.pre b∨C.w0.heap.size≤b):=fun I V h b E=>by
   have af:=R.size;rcases U I V h with ⟨rfl,rfl⟩| ⟨rfl,rfl⟩| ⟨n1,n2,h⟩
   ·rw [J _ a2] at E;exact⟨fun hs=>(a3 b hs).elim (hp b E).1 fun hs=>(aq b E).1 hs.1,(aq b E).2,(hp b E).2.2⟩
   ·rw [Z] at E;obtain⟨p1,p2,p3⟩:=ax b E;refine⟨fun hs=>(a3 b hs).elim (fun hs=>?_) fun hs=>p1 hs.1,p2,?_⟩
    ·exact p1 (hk.Ek b hs)
    ·rcases p3 with (h3| h3)| h3
     ·exact (hp b h3).2.2
     ·exact (a8 b h3).2.2
     ·exact .inr (Dk af h3)
   ·rw [J _ n2] at E;obtain⟨p1,p2,p3⟩:=R.B8 I V h b E;refine⟨fun hs=>(a3 b hs).elim p1 fun hs=>?_,by omega,p3⟩;rcases hs.2 with h4| h4
    ·omega
    ·exact n2 (R.inj I V q _ h hq b E h4).1
  refine⟨v,S2,β2,rfl,?_,e1,(hv.ext (β':=β') e2 (fun _ _=>rfl)).closed hr,fun x hx=>J x (by simpa using hx)⟩;exact {
   Ek:=fun b E=>a7 b (R.Ek b E)
   Dx:=fun b E=>by
    rcases a3 b E with h| ⟨_,h| h⟩
    ·exact R.Dx b h
    ·exact .inr (.inr (Dk R.size h))
    ·exact .inr (a8 b h).2.2
   Bi:=fun b E=>by
    rcases a3 b E with h| ⟨h,_⟩
    ·have:=R.Bi b h;omega
    ·exact hk.Bi b h
   kept:=fun b b7 hn=>by
    have af:=R.size;rw [a5 b (by omega) (fun he=>?_) fun he=>?_]
    ·exact R.kept b b7 hn
    ·rcases (hp b he).2.2 with h| h
     ·exact hn h
     ·omega
    ·rcases (a8 b he).2.2 with h| h
     ·exact hn h
     ·omega
   os:=hk.os.trans R.os
   tape:=hk.tape.trans R.tape
   output:=hk.output.trans R.output
   size:=Dk R.size b1
   box:=fun I V h=>by
    rcases U I V h with ⟨rfl,rfl⟩| ⟨rfl,rfl⟩| ⟨n1,n2,h⟩
    ·have h0:=hk.box 1000000 (.cells (.acc 7::cs')) (by simp);rw [ac] at h0;rw [J _ a2];obtain⟨b,ty,vs,q1,q2,q3⟩:=h0;exact⟨b,ty,vs,q1,q2,D0a q3 e2 Z az⟩
    ·have h0:=hk.box 7 (.rows sz a4) (by simp);rw [Z];exact h0.ext e2 (fun _ _=>rfl) (fun _ hx=>by simp [Ar.has] at hx)
    ·rw [J _ n2];have hn:=b5 I V h n1;refine (R.box I V h).ext e1 (fun b E=>?_) fun x hx=>J x (by rintro rfl;rw [hn] at hx;simp at hx);obtain⟨p1,p2,p3⟩:=R.B8 I V h b E;exact a5 b p2 (fun he=>n1 (R.inj I V k _ h hb b E he).1) fun he=>n2 (R.inj I V q _ h hq b E he).1
   B8:=aj
   inj:=fun k1 c1 k2 c2 h1 h2 b O L=>by
    have Yb:∀I V,(I,V)∈bx→I≠k→I≠q→∀b,(β I).base=some b→(β' 7).base≠some b:=fun I V h n1 n2 b E ag=>by
     obtain⟨p1,p2,p3⟩:=R.B8 I V h b E;rcases (ax b ag).2.2 with (h3| h3)| h3
     ·exact n1 (R.inj I V k _ h hb b E h3).1
     ·exact n2 (R.inj I V q _ h hq b E h3).1
     ·have:w.heap.size≤b:=h3;omega
    have ay:∀b,(β k).base=some b→(β' 7).base≠some b:=fun b E ag=>by have:=(hk.inj 1000000 (.cells (.acc 7::cs')) 7 (.rows sz a4) (by simp) (by simp) b (by rw [ac];exact E) ag).1;simp at this
    rcases U k1 c1 h1 with ⟨rfl,rfl⟩| ⟨rfl,rfl⟩| ⟨n1,n2,ap⟩ <;> rcases U k2 c2 h2 with ⟨a6,rfl⟩| ⟨a6,rfl⟩| ⟨m1,m2,ao⟩
    ·exact⟨a6.symm,rfl⟩
    ·subst a6;rw [J _ a2] at O;rw [Z] at L;exact absurd L (ay b O)
    ·rw [J _ a2] at O;rw [J _ m2] at L;exact absurd (R.inj _ _ _ _ ao hb b L O).1 m1
    ·subst a6;rw [Z] at O;rw [J _ a2] at L;exact absurd O (ay b L)
    ·exact⟨a6.symm,rfl⟩
    ·rw [Z] at O;rw [J _ m2] at L;exact absurd O (Yb _ _ ao m1 m2 b L)
    ·subst a6;rw [J _ a2] at L;rw [J _ n2] at O;exact absurd (R.inj _ _ _ _ ap hb b O L).1 n1
    ·subst a6;rw [Z] at L;rw [J _ n2] at O;exact absurd L (Yb _ _ ap n1 n2 b O)
    ·rw [J _ n2] at O;rw [J _ m2] at L;exact R.inj _ _ _ _ ap ao b O L
   D9:=fun b au h=>by obtain⟨t1,ty,fr,t2⟩:=R.D9 b au h;exact⟨a7 b t1,ty,fr,by rw [e1.same b t1];exact t2⟩
   one:=fun I Y st ba Y' b8 h=>by
    rcases U I _ h with ⟨_,h⟩| ⟨_,h⟩| ⟨_,_,h⟩
    ·cases h
    ·cases h
    ·have:=aa _ _ h;simp [Ar.real] at this
   Ez:=fun I Y st h=>by
    rcases U I _ h with ⟨_,h⟩| ⟨_,h⟩| ⟨_,_,h⟩
    ·cases h
    ·cases h
    ·have:=aa _ _ h;simp [Ar.real] at this
   fix:=fun I i h=>by obtain⟨f1,f2⟩:=R.fix I i h;exact⟨f1,by rw [J I (by omega)];exact f2⟩ }
end Go.Abs
