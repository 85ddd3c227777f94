/- fault.Code, fault.At, castingslaw13.told -/
import Derived.Test.YtieakoebgfiniaaGreatDoorZS25
import Derived.Test.YtieakoebgfiniaaGreatDoorZS27
set_option linter.all false
set_option maxHeartbeats 1000000
set_option maxRecDepth 100000
namespace Go.Abs
open Go Go.Proofs Go.RowKit Tryz
structure Kept(t:Nat)(w w':World):Prop where
 heap:∀b,b<w.heap.size->b≠t->w'.heap[b]?=w.heap[b]?
 os:w'.os=w.os
 tape:w'.tape=w.tape
 output:w'.output=w.output
 size:w.heap.size<=w'.heap.size
theorem Kept.refl(t:Nat)(w:World):Kept t w w:=⟨λ_ _ _=>rfl,rfl,rfl,rfl,Bs _⟩
def Kept.alloc{t:Nat}{w w':World}(h:Kept t w w')(o:Obj):Kept t w (w'.alloc o) :=
 ⟨λb E I=>by rw[RowKit.Below.heap_alloc _ _ b (W5 E h.size)];exact h.heap b E I,h.os,h.tape,h.output,by have:=h.size;simp[-World.alloc_eq,World.alloc];omega⟩
def Kept.setRow{t:Nat}{w w':World}(h:Kept t w w')(cs:Array Value):Kept t w (w'.setRow t cs) :=
 ⟨λb I E=>by
  have:(w'.setRow t cs).heap[b]?=w'.heap[b]?:=by simp[World.setRow,An0,Xn E]
  rw[this];exact h.heap b I E,h.os,h.tape,h.output,by have:=h.size;simp[World.setRow];omega⟩
def Kept.wC(P:TypeId)(t:Nat)(w:World):Kept t w (As.wC P t w):=by unfold As.wC As.wB As.wA;exact(((Kept.refl t w).alloc _).alloc _).alloc _
def E5e(w:World)(t:Nat)(cs Gr:Array Value)(ty:TypeId)(j:Nat)(v:Value)(h:w.heap[t]?=some (.cells Gr ty (0,0)))(E:cs[j]?=some v):(w.setRow t cs).cell? ⟨t,j,none⟩=some v:=by have:=setRow_heap w t Gr cs ty (0,0) h;simp[World.cell?,this,E]
def H2v(e f:Int)(t:Nat)(Gr:Array Value)(ty:TypeId)(w:World)(J:w.cell? ⟨0,0,none⟩=some (As.Ke 40))(E:0<w.heap.size)(ht:w.heap[t]?=some (.cells Gr ty (0,0)))(O:Gr.size=1) :
  Calls prog 97 #[.iface 136 (.agg #[.int .i64 e,.int .i64 f]),.iface 157 (.pointer (some ⟨t,0,none⟩))] w λev w'=>ev=.returned (.bool true)/\w'.cell? ⟨t,0,none⟩=some (.int .i64 e)/\Kept t w w':=by
 have I:t<w.heap.size:=(Uq.1 ht).1;refine(As.G5o e f t Gr ty w J E ht O).mono ?_;rintro ev w' ⟨rfl,rfl⟩;have L:=((Kept.wC 157 t w).alloc (.cells #[.int .i64 e,.int .i64 f] 136)).alloc (.cells #[.int .i64 e] 72);refine⟨rfl,E5e _ t _ Gr ty 0 _ ?_ rfl,L.setRow _⟩;rw[RowKit.Below.heap_alloc _ _ t (by simp[-World.alloc_eq,World.alloc,As.Yv];omega),RowKit.Below.heap_alloc _ _ t (by rw[As.Yv];omega),As.B8w _ _ _ _ I];exact ht
def F7w(e f:Int)(t:Nat)(Gr:Array Value)(ty:TypeId)(w:World)(J:w.cell? ⟨0,0,none⟩=some (As.Ke 40))(E:0<w.heap.size)(ht:w.heap[t]?=some (.cells Gr ty (0,0)))(O:Gr.size=2) :
  Calls prog 97 #[.iface 136 (.agg #[.int .i64 e,.int .i64 f]),.iface 158 (.pointer (some ⟨t,0,none⟩))] w λev w'=>ev=.returned (.bool true)/\w'.cell? ⟨t,1,none⟩=some (.int .i64 f)/\Kept t w w':=by
 have I:t<w.heap.size:=(Uq.1 ht).1;refine(As.H0y e f t Gr ty w J E ht O).mono ?_;rintro ev w' ⟨rfl,rfl⟩;have L:=(Kept.wC 158 t w).alloc (.cells #[.int .i64 e,.int .i64 f] 136);refine⟨rfl,E5e _ t _ Gr ty 1 _ ?_ rfl,L.setRow _⟩;rw[RowKit.Below.heap_alloc _ _ t (by rw[As.Yv];omega),As.B8w _ _ _ _ I];exact ht
def Kept.after{w w':World}{o:Obj}(h:Kept w.heap.size (w.alloc o) w'):Kept w.heap.size w w' :=
 ⟨λb E I=>by rw[h.heap b (by simp[-World.alloc_eq,World.alloc];omega) I,RowKit.Below.heap_alloc _ _ b E],h.os,h.tape,h.output,by have:=h.size;simp[-World.alloc_eq,World.alloc]at this;omega⟩
def H1a(e f:Int)(w:World)(L:w.cell? ⟨0,0,none⟩=some (As.Ke 40))(I:0<w.heap.size) :
  Calls prog 43 #[.iface 136 (.agg #[.int .i64 e,.int .i64 f])] w λev w'=>ev=.returned (.tuple #[.int .i64 e,.bool true])/\Kept w.heap.size w w':=by
 have O:=H2v e f w.heap.size #[.int .i64 0] 72 (w.alloc (.cells #[.int .i64 0] 72)) (by rw[World.cell?_alloc_lt _ _ ⟨0,0,none⟩ I];exact L) (by simp[-World.alloc_eq,World.alloc] <;> omega) (by simp[-World.alloc_eq,World.alloc]) rfl
 go_enter func43,ntmps43
 go_wp2_with (go_at_call 97;refine O.mono ?_;rintro ev w' ⟨rfl,J,E⟩)
 go_ret2
 exact⟨rfl,E.after⟩
def F1o(e f:Int)(w:World)(L:w.cell? ⟨0,0,none⟩=some (As.Ke 40))(I:0<w.heap.size) :
  Calls prog 44 #[.iface 136 (.agg #[.int .i64 e,.int .i64 f])] w λev w'=>ev=.returned (.tuple #[.int .i64 f,.bool true])/\Kept w.heap.size w w':=by
 have O:=F7w e f w.heap.size #[.int .i64 0,.int .i64 0] 136 (w.alloc (.cells #[.int .i64 0,.int .i64 0] 136)) (by rw[World.cell?_alloc_lt _ _ ⟨0,0,none⟩ I];exact L) (by simp[-World.alloc_eq,World.alloc] <;> omega) (by simp[-World.alloc_eq,World.alloc]) rfl
 go_enter func44,ntmps44
 go_wp2_with (go_at_call 97;refine O.mono ?_;rintro ev w' ⟨rfl,J,E⟩)
 go_ret2
 exact⟨rfl,E.after⟩
def D6i{S:Nat->Prop}{w:World}{c q:Int}{v:Value}(h:Bu S w (Jk c (some q)) v):v=.iface 136 (.agg #[.int .i64 c,.int .i64 q]):=by
 unfold Jk at h;cases h with
 |iface _ _ u I =>
  cases I with
  |agg _ vs J U E =>
   match vs,J,E with
   |[a,b],_,E =>have O:=E 0 _ _ rfl rfl;have L:=E 1 _ _ rfl rfl;cases O;cases L;rfl
def D6j{C:Ctx}{S:Nat->Prop}{w:World}{β:Names}{bx:Ab}(h:Inv C S w β bx):w.cell? ⟨0,0,none⟩=some (As.Ke 40)/\0<w.heap.size:=by obtain⟨hs,ty,I,E⟩:=h.E2 0 B6g (.inr (.inl ⟨rfl,rfl,trivial⟩));exact⟨by simp[World.cell?,E,B6g],(Uq.1 E).1⟩
def D2s{C:Ctx}{β:Names}{w':World}(J:Inv C C.S0 C.w0 β [])(E:Kept C.w0.heap.size C.w0 w'):Inv C C.S0 w' β [] :=
 (J.grow (λ_ h=>h) (λ_ h=>.inl h) (λb I=>W5 (J.Bw b I) E.size) (λb I=>E.heap b I (by omega)) E.os E.tape E.output E.size).1
def F8u(c q:Int):Aa prog 43 [.d (Jk c (some q))] (.tuple [A5 c,Aw true]):=by
 refine⟨(Enters.of func43 rfl (by decide)),λC β vs U E=>?_⟩;obtain⟨v,J,L⟩:=E.get (j:=0) (c:=.d (Jk c (some q))) rfl;have O:vs=[.iface 136 (.agg #[.int .i64 c,.int .i64 q])]:=by
  have hl:=E.1
  match vs,hl with
  |[u],_=>simp only[Xg,B5]at J;subst J;rw[D6i L.Ij]
 subst O;obtain⟨Z,W⟩:=D6j U;refine(H1a c q C.w0 Z W).mono ?_;rintro e w' ⟨rfl,V⟩;exact⟨_,C.S0,β,rfl,D2s U V,.tuple _ [.int .i64 c,.bool true] rfl (by intro j x v I E;match j with
  |0=>simp at I E;subst I;subst E;exact .d _ _ (.int _ _)
  |1=>simp at I E;subst I;subst E;exact .d _ _ (.bool _)
  |j+2=>simp at I)⟩
def F6i(c q:Int):Aa prog 44 [.d (Jk c (some q))] (.tuple [A5 q,Aw true]):=by
 refine⟨(Enters.of func44 rfl (by decide)),λC β vs U E=>?_⟩;obtain⟨v,J,L⟩:=E.get (j:=0) (c:=.d (Jk c (some q))) rfl;have O:vs=[.iface 136 (.agg #[.int .i64 c,.int .i64 q])]:=by
  have hl:=E.1
  match vs,hl with
  |[u],_=>simp only[Xg,B5]at J;subst J;rw[D6i L.Ij]
 subst O;obtain⟨Z,W⟩:=D6j U;refine(F1o c q C.w0 Z W).mono ?_;rintro e w' ⟨rfl,V⟩;exact⟨_,C.S0,β,rfl,D2s U V,.tuple _ [.int .i64 q,.bool true] rfl (by intro j x v I E;match j with
  |0=>simp at I E;subst I;subst E;exact .d _ _ (.int _ _)
  |1=>simp at I E;subst I;subst E;exact .d _ _ (.bool _)
  |j+2=>simp at I)⟩
end Go.Abs
