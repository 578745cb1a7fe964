/-
  Plain words on byte strings and lists that the walks and the plain laws of this seat share. No program in sight.
-/
import Derived.Lib.Strings
set_option linter.unusedVariables false
namespace Go.Proofs.YtlmbfijhkcmncaaGreatDoor
def bs (l:List UInt8):ByteArray:=⟨l.toArray⟩
@[simp] theorem q2h (l:List UInt8):(bs l).data.toList=l:=rfl
@[simp] theorem q3j (l:List UInt8):(bs l).size=l.length:=rfl
theorem bs_inj {l k:List UInt8}:bs l=bs k↔l=k:=by
 constructor
 ·intro h
  have:=congrArg (λs:ByteArray=>s.data.toList) h
  simpa using this
 ·rintro rfl;rfl
theorem q0c (s:ByteArray):s.size=s.data.toList.length:=Lib.size_eq s
theorem q1i (s:ByteArray) (i j:Nat):s.extract i j=bs ((s.data.toList.drop i).take (j-i)):=Lib.extract_eq s i j
theorem q7y (s:ByteArray) (i:Nat) (h:i<s.size):s.data.toList[i]? = some s[i]:=by
 obtain ⟨⟨l⟩⟩:=s;exact List.getElem?_eq_getElem (l:=l) h
theorem q10 (s:ByteArray) (i:Nat) (h:i<s.size):s.data.toList.drop i=s[i]::s.data.toList.drop (i+1):=by
 obtain ⟨⟨l⟩⟩:=s;exact List.drop_eq_getElem_cons (l:=l) h
end Go.Proofs.YtlmbfijhkcmncaaGreatDoor
