/- Data of the program's types are types, expressions, declarations, programs -/
import Derived.Test.YtfjaahliphbklaaGreatDoorJRead
import Derived.Test.YtfjaahliphbklaaGreatDoorJEnc
import Derived.Test.YtfjaahliphbklaaGreatDoorJTypes
namespace Go.Abs
set_option maxRecDepth 100000
set_option maxHeartbeats 1000000
set_option linter.unusedSimpArgs false
set_option linter.unusedVariables false
open Go Go.Proofs Tryz
variable {P:Program}
theorem A7y {T:TypeId} (hu:P.underlying T=some .string):∀ {n:Nat} {ds:List D},A9o P n T ds→∃ s:Str,ds=[.str s]
 | 0,_,h=>by simp [A9o] at h
 | n+1,_,h=>by rw [A9o,hu] at h;exact h
theorem A7u {T:TypeId} {k:IntKind} (hu:P.underlying T=some (.int k)):∀ {n:Nat} {ds:List D},A9o P n T ds→∃ z,ds=[.int k z]
 | 0,_,h=>by simp [A9o] at h
 | n+1,_,h=>by rw [A9o,hu] at h;exact h
theorem A4v {T e:TypeId} (hu:P.underlying T=some (.slice e)):∀ {n:Nat} {ds:List D},A9o P n T ds→∃ m rows,n=m+1∧ds=[.slice rows]∧∀ row,row∈rows→A9o P m e row
 | 0,_,h=>by simp [A9o] at h
 | n+1,_,h=>by rw [A9o,hu] at h;obtain⟨rows,h1,h2⟩:=h;exact⟨n,rows,rfl,h1,h2⟩
theorem A4q {T:TypeId} {fs:Array Field} (hu:P.underlying T=some (.struct fs)):∀ {n:Nat} {ds:List D},A9o P n T ds→∃ m,n=m+1∧B6w P m fs.toList ds
 | 0,_,h=>by simp [A9o] at h
 | n+1,_,h=>by rw [A9o,hu] at h;exact⟨n,rfl,h⟩
theorem A6q {α:Type} {C:α→List D} {Q:List D→Prop} (h:∀ row,Q row→∃ x,row=C x):∀ (rows:List (List D)),(∀ row,row∈rows→Q row)→∃ l:List α,rows=l.map C
 | [],_=>⟨[],rfl⟩
 | row::rows,hr=>by obtain⟨x,hx⟩:=h row (hr row (by simp));obtain⟨l,hl⟩:=A6q h rows fun r hr'=>hr r (by simp [hr']);exact⟨x::l,by rw [hx,hl];rfl⟩
theorem C0y:∀ (n:Nat) {ds:List D},A9o prog n 25 ds→∃ t:Ty,ds=tyC t:=by
 intro n
 induction n using Nat.strongRecOn with
 | ind n ih =>
 intro ds h;obtain⟨m,rfl,hL⟩:=A4q underlying25 h;simp only [B6w] at hL;obtain⟨a,_,rfl,h1,_,b,_,rfl,h2,_,c,_,rfl,h3,_,rfl⟩:=hL;obtain⟨s,rfl⟩:=A7y underlying9 h1;obtain⟨k,rows,rfl,rfl,hr⟩:=A4v underlying23 h2;obtain⟨z,rfl⟩:=A7u underlying3 h3;obtain⟨l,rfl⟩:=A6q (C:=tyC) (fun row hrow=>ih k (by omega) hrow) rows hr;exact⟨.mk s l z,by simp [tyC,Ty.name,Ty.args,Ty.pos,A1o]⟩
variable {n:Nat} {ds:List D}
theorem F5g (h:A9o prog n 23 ds):∃ l:List Ty,ds=[.slice (tyR l)]:=by obtain⟨k,rows,rfl,rfl,hr⟩:=A4v underlying23 h;obtain⟨l,rfl⟩:=A6q (C:=tyC) (fun row hrow=>C0y k hrow) rows hr;exact⟨l,by rw [A1o]⟩
theorem E7w (h:A9o prog n 48 ds):∃ l:List Str,ds=[.slice (A2x l)]:=by obtain⟨k,rows,rfl,rfl,hr⟩:=A4v underlying48 h;obtain⟨l,rfl⟩:=A6q (C:=fun s:Str=>[.str s]) (fun row hrow=>A7y underlying9 hrow) rows hr;exact⟨l,rfl⟩
theorem E9u:∀ (n:Nat) {ds:List D},A9o prog n 28 ds→∃ e:Ex,ds=exC e:=by
 intro n
 induction n using Nat.strongRecOn with
 | ind n ih =>
 intro ds h;obtain⟨m,rfl,hL⟩:=A4q underlying28 h;simp only [B6w] at hL;obtain⟨a,_,rfl,h1,_,b,_,rfl,h2,_,c,_,rfl,h3,_,d,_,rfl,h4,_,e,_,rfl,h5,_,f,_,rfl,h6,_,rfl⟩:=hL;obtain⟨z,rfl⟩:=A7u underlying3 h1;obtain⟨s,rfl⟩:=A7y underlying9 h2;obtain⟨t,rfl⟩:=C0y m h3;obtain⟨l,rfl⟩:=F5g h4;obtain⟨k,rows,rfl,rfl,hr⟩:=A4v underlying26 h5;obtain⟨q,rfl⟩:=A7u underlying3 h6;obtain⟨ks,rfl⟩:=A6q (C:=exC) (fun row hrow=>ih k (by omega) hrow) rows hr;exact⟨.mk z s t l ks q,by simp [exC,tyC,Ex.kind,Ex.name,Ex.type,Ex.targs,Ex.kids,Ex.pos,A2k]⟩
theorem G0n (h:A9o prog n 135 ds):∃ e:Formal,ds=foC e:=by obtain⟨m,rfl,hL⟩:=A4q underlying135 h;simp only [B6w] at hL;obtain⟨a,_,rfl,h1,_,b,_,rfl,h2,_,c,_,rfl,h3,_,rfl⟩:=hL;obtain⟨s,rfl⟩:=A7y underlying9 h1;obtain⟨t,rfl⟩:=C0y m h2;obtain⟨z,rfl⟩:=A7u underlying3 h3;exact⟨⟨s,t,z⟩,rfl⟩
theorem G1f (h:A9o prog n 81 ds):∃ e:Param,ds=paC e:=by obtain⟨m,rfl,hL⟩:=A4q underlying81 h;simp only [B6w] at hL;obtain⟨a,_,rfl,h1,_,b,_,rfl,h2,_,c,_,rfl,h3,_,rfl⟩:=hL;obtain⟨s,rfl⟩:=A7y underlying9 h1;obtain⟨t,rfl⟩:=C0y m h2;obtain⟨z,rfl⟩:=A7u underlying3 h3;exact⟨⟨s,t,z⟩,rfl⟩
theorem E1n (h:A9o prog n 45 ds):∃ l:List Formal,ds=[.slice (foR l)]:=by obtain⟨k,rows,rfl,rfl,hr⟩:=A4v underlying45 h;obtain⟨l,rfl⟩:=A6q (C:=foC) (fun row hrow=>G0n hrow) rows hr;exact⟨l,rfl⟩
theorem E1r (h:A9o prog n 46 ds):∃ l:List Param,ds=[.slice (paR l)]:=by obtain⟨k,rows,rfl,rfl,hr⟩:=A4v underlying46 h;obtain⟨l,rfl⟩:=A6q (C:=paC) (fun row hrow=>G1f hrow) rows hr;exact⟨l,rfl⟩
theorem E7h (h:A9o prog n 50 ds):∃ e:Sig,ds=siC e:=by obtain⟨m,rfl,hL⟩:=A4q underlying50 h;simp only [B6w] at hL;obtain⟨a,_,rfl,h1,_,b,_,rfl,h2,_,c,_,rfl,h3,_,d,_,rfl,h4,_,e,_,rfl,h5,_,rfl⟩:=hL;obtain⟨s,rfl⟩:=A7y underlying9 h1;obtain⟨fs,rfl⟩:=E1n h2;obtain⟨ps,rfl⟩:=E1r h3;obtain⟨t,rfl⟩:=C0y m h4;obtain⟨z,rfl⟩:=A7u underlying3 h5;exact⟨⟨s,fs,ps,t,z⟩,rfl⟩
theorem F7b (h:A9o prog n 47 ds):∃ l:List Sig,ds=[.slice (siR l)]:=by obtain⟨k,rows,rfl,rfl,hr⟩:=A4v underlying47 h;obtain⟨l,rfl⟩:=A6q (C:=siC) (fun row hrow=>E7h hrow) rows hr;exact⟨l,rfl⟩
theorem G1d (h:A9o prog n 52 ds):∃ e:Decl,ds=deC e:=by obtain⟨m,rfl,hL⟩:=A4q underlying52 h;simp only [B6w] at hL;obtain⟨a,_,rfl,h1,_,b,_,rfl,h2,_,c,_,rfl,h3,_,d,_,rfl,h4,_,e,_,rfl,h5,_,f,_,rfl,h6,_,g,_,rfl,h7,_,i,_,rfl,h8,_,j,_,rfl,h9,_,k,_,rfl,h10,_,rfl⟩:=hL;obtain⟨z,rfl⟩:=A7u underlying3 h1;obtain⟨s,rfl⟩:=A7y underlying9 h2;obtain⟨fs,rfl⟩:=E1n h3;obtain⟨ps,rfl⟩:=E1r h4;obtain⟨ss,rfl⟩:=F7b h5;obtain⟨r,rfl⟩:=A7y underlying9 h6;obtain⟨vs,rfl⟩:=E7w h7;obtain⟨sg,rfl⟩:=E7h h8;obtain⟨bd,rfl⟩:=E9u m h9;obtain⟨q,rfl⟩:=A7u underlying3 h10;exact⟨⟨z,s,fs,ps,ss,r,vs,sg,bd,q⟩,by simp [deC,siC,exC]⟩
theorem F4j (h:A9o prog n 22 ds):∃ l:List Decl,ds=[.slice (deR l)]:=by obtain⟨k,rows,rfl,rfl,hr⟩:=A4v underlying22 h;obtain⟨l,rfl⟩:=A6q (C:=deC) (fun row hrow=>G1d hrow) rows hr;exact⟨l,rfl⟩
theorem G0b (h:A9o prog n 30 ds):∃ p:Prog,ds=prC p:=by obtain⟨m,rfl,hL⟩:=A4q underlying30 h;simp only [B6w] at hL;obtain⟨a,_,rfl,h1,_,b,_,rfl,h2,_,rfl⟩:=hL;obtain⟨l,rfl⟩:=F4j h1;obtain⟨e,rfl⟩:=E9u m h2;exact⟨⟨l,e⟩,by simp [prC,exC]⟩
def F7q:List TypeId:=[3,4,9,48,25,23,28,26,135,45,81,46,50,47,52,22,30]
theorem E7g:G4w prog F7q=true:=by kernel_rfl
variable {H:Type} {enc:TypeId × Value→H}
theorem F8a {W:World} {base:Nat} {v:Value} {d:DataW H} {ps:List MemPlace} (hok:Value.okWide prog W .any base 30 v)
  (h:DataW.Trod enc prog W 0 (fun _=>true) true 30 v d ps) (hw:∀ k,k∈d.weights prog 30→k≤reachBytes) (β:A0y):∃ p:Prog,RepV (all W) W β (prV p) v:=by
 obtain⟨n,ds,h1,h2⟩:=G0p E7g (by simp [F7q]) underlying30 hok h hw β;obtain⟨p,rfl⟩:=G0b h1;exact⟨p,h2⟩
end Go.Abs
