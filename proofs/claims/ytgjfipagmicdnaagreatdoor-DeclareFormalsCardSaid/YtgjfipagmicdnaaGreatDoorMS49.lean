/- castingsref01.Class, Reserved, Is; castingsref04.List, Right -/
import Derived.Test.YtgjfipagmicdnaaGreatDoorMS47
import Derived.Test.YtgjfipagmicdnaaGreatDoorMSB
namespace Go.Abs
set_option linter.unusedSimpArgs false
set_option linter.unusedVariables false
open Go Go.Proofs
set_option maxRecDepth 100000
set_option maxHeartbeats 1000000
def letter (n:Int):Prop:=(97≤n∧n≤122)∨(65≤n∧n≤90)
instance (n:Int):Decidable (letter n):=by unfold letter;infer_instance
def blank (n:Int):Prop:=n=9∨n=10∨n=13∨n=32
instance (n:Int):Decidable (blank n):=by unfold blank;infer_instance
def cls (n:Int):Int:=if letter n then 1 else if 48≤n∧n≤57 then 2 else if n=95 then 3 else if blank n then 4 else 0
def reserved (s:Str):Bool:=decide (s=[112,97,99,107,97,103,101]∨s=[109,97,105,110]∨s=[116,121,112,101]∨s=[115,116,114,117,99,116]∨s=[105,110,116,101,114,102,97,99,101]∨s=[102,117,110,99]∨s=[114,101,116,117,114,110])
def okByte (c:UInt8):Bool:=!(decide (cls c.toNat=0) || decide (cls c.toNat=4))
def isName (s:Str):Bool:=match s with
 | []=>false
 | c::_=>decide (cls c.toNat=1) && s.all okByte && !reserved s
def Ty.right (t:Ty):Bool:=t.names.all isName
def kidsOK (e:Ex):Prop:=(e.kind=1→e.kids=[])∧(e.kind=4∨e.kind=5→e.kids.length=1)
mutual
def Ex.One:Ex→Prop
 | .mk k n t a ks q=>kidsOK (.mk k n t a ks q)∧Ex.OneL ks
def Ex.OneL:List Ex→Prop
 | []=>True
 | e::es=>e.One∧Ex.OneL es
end
theorem OneL_mem:∀ {l:List Ex},Ex.OneL l→∀ e,e∈l→e.One
 | [],_=>by simp
 | x::l,h=>by
  rw [Ex.OneL] at h
  intro e he
  simp only [List.mem_cons] at he
  rcases he with rfl | he
  ·exact h.1
  ·exact OneL_mem h.2 e he
theorem Ex.One.out {e:Ex} (h:e.One):kidsOK e∧∀ x,x∈e.kids→x.One:=by
 cases e with | mk k n t a ks q=>rw [Ex.One] at h;exact⟨h.1,OneL_mem h.2⟩
def Ex.typed (e:Ex):Bool:=decide (e.kind=3) || decide (e.kind=5)
def Ex.kindB (e:Ex):Bool:=if e.kind=1 then decide ((e.kids.length:Int)=0) else if e.kind=2 then decide ((e.kids.length:Int) ≥ 1) else if e.kind=3 then true else if e.kind=4∨e.kind=5 then decide ((e.kids.length:Int)=1) else false
def Ex.right1 (e:Ex):Bool:=if e.typed=true then e.type.right && decide (e.name=[]) && e.kindB else !e.type.right && decide (e.type.name=[]) && decide (e.type.args.length=0) && isName e.name && e.kindB
def Ex.right2 (e:Ex):Bool:=e.targs.all fun t=>decide (e.kind=2) && t.right
mutual
def Ex.right:Ex→Bool
 | .mk k n t a ks q=>Ex.rightL ks && (Ex.right2 (.mk k n t a ks q) && Ex.right1 (.mk k n t a ks q))
def Ex.rightL:List Ex→Bool
 | []=>true
 | e::es=>e.right && Ex.rightL es
end
def foRight (l:List Formal):Bool:=l.all fun f=>isName f.name && f.bound.right
def paRight (l:List Param):Bool:=l.all fun f=>isName f.name && f.type.right
def Sig.right (s:Sig):Bool:=isName s.name && foRight s.formals && paRight s.params && s.result.right
end Go.Abs
