/- Data of the program's types are types, expressions, declarations, programs -/
import Derived.Test.YtaneedhchnaniaaGreatDoorQRead
import Derived.Test.YtaneedhchnaniaaGreatDoorQEnc
import Derived.Test.YtaneedhchnaniaaGreatDoorQTypes
namespace Go.Abs
set_option maxRecDepth 100000
set_option maxHeartbeats 1000000
set_option linter.unusedSimpArgs false
set_option linter.unusedVariables false
open Go Go.Proofs Tryz
variable {P:Program}
theorem conf_str {T:TypeId} (hu:P.underlying T=some .string):∀ {n:Nat} {ds:List D},Conf P n T ds→∃ s:Str,ds=[.str s]
 | 0,_,h=>by simp [Conf] at h
 | n+1,_,h=>by rw [Conf,hu] at h;exact h
theorem conf_int {T:TypeId} {k:IntKind} (hu:P.underlying T=some (.int k)):∀ {n:Nat} {ds:List D},Conf P n T ds→∃ z,ds=[.int k z]
 | 0,_,h=>by simp [Conf] at h
 | n+1,_,h=>by rw [Conf,hu] at h;exact h
theorem conf_slice {T e:TypeId} (hu:P.underlying T=some (.slice e)):∀ {n:Nat} {ds:List D},Conf P n T ds→∃ m rows,n=m+1∧ds=[.slice rows]∧∀ row,row∈rows→Conf P m e row
 | 0,_,h=>by simp [Conf] at h
 | n+1,_,h=>by rw [Conf,hu] at h;obtain⟨rows,h1,h2⟩:=h;exact⟨n,rows,rfl,h1,h2⟩
theorem conf_struct {T:TypeId} {fs:Array Field} (hu:P.underlying T=some (.struct fs)):∀ {n:Nat} {ds:List D},Conf P n T ds→∃ m,n=m+1∧ConfL P m fs.toList ds
 | 0,_,h=>by simp [Conf] at h
 | n+1,_,h=>by rw [Conf,hu] at h;exact⟨n,rfl,h⟩
theorem rows_map {α:Type} {C:α→List D} {Q:List D→Prop} (h:∀ row,Q row→∃ x,row=C x):∀ (rows:List (List D)),(∀ row,row∈rows→Q row)→∃ l:List α,rows=l.map C
 | [],_=>⟨[],rfl⟩
 | row::rows,hr=>by
  obtain⟨x,hx⟩:=h row (hr row (by simp))
  obtain⟨l,hl⟩:=rows_map h rows fun r hr'=>hr r (by simp [hr'])
  exact⟨x::l,by rw [hx,hl];rfl⟩
theorem conf_ty:∀ (n:Nat) {ds:List D},Conf prog n 24 ds→∃ t:Ty,ds=tyC t:=by
 intro n
 induction n using Nat.strongRecOn with
 | ind n ih =>
 intro ds h
 obtain⟨m,rfl,hL⟩:=conf_struct underlying24 h
 simp only [ConfL] at hL
 obtain⟨a,_,rfl,h1,_,b,_,rfl,h2,_,c,_,rfl,h3,_,rfl⟩:=hL
 obtain⟨s,rfl⟩:=conf_str underlying9 h1
 obtain⟨k,rows,rfl,rfl,hr⟩:=conf_slice underlying22 h2
 obtain⟨z,rfl⟩:=conf_int underlying3 h3
 obtain⟨l,rfl⟩:=rows_map (C:=tyC) (fun row hrow=>ih k (by omega) hrow) rows hr
 exact⟨.mk s l z,by simp [tyC,Ty.name,Ty.args,Ty.pos,tyR_map]⟩
theorem conf_tys {n:Nat} {ds:List D} (h:Conf prog n 22 ds):∃ l:List Ty,ds=[.slice (tyR l)]:=by
 obtain⟨k,rows,rfl,rfl,hr⟩:=conf_slice underlying22 h
 obtain⟨l,rfl⟩:=rows_map (C:=tyC) (fun row hrow=>conf_ty k hrow) rows hr
 exact⟨l,by rw [tyR_map]⟩
def dataTs:List TypeId:=[3,4,9,57,24,22,41,39,93,54,95,55,59,56,61,38,43]
theorem dataTs_ok:okTs prog dataTs=true:=by kernel_rfl
variable {H:Type} {enc:TypeId × Value→H}
theorem arg_ty {W:World} {base:Nat} {v:Value} {d:DataW H} {ps:List MemPlace} (hok:Value.okWide prog W .any base 24 v)
  (h:DataW.Trod enc prog W 0 (fun _=>true) true 24 v d ps) (hw:∀ k,k∈d.weights prog 24→k≤reachBytes) (β:Names):∃ t:Ty,RepV (all W) W β (tyV t) v:=by
 obtain⟨n,ds,h1,h2⟩:=arg_agg dataTs_ok (by simp [dataTs]) underlying24 hok h hw β
 obtain⟨t,rfl⟩:=conf_ty n h1
 exact⟨t,h2⟩
end Go.Abs
