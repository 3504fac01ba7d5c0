/- code.Parse, walked. -/
import Derived.Test.YtkphijabhoppnaaDoorSa
import Derived.Test.YtkphijabhoppnaaDoorTb
namespace Go.Proofs.YtkphijabhoppnaaDoor
open Go.RowKit Go.Shelf
set_option linter.unusedSimpArgs false
set_option linter.unusedVariables false
attribute [local go_sem] Oper.semAt_some

/-- A line's bytes; none: it is none. -/
def lineO (x : ByteArray) : Option (List Int) := if fieldsB x = [] then some [] else lineS ((fieldsB x).map fun y => y.data.toList)
def outF (o : Option (List Int)) (x : ByteArray) : Option (List Int) := match o, lineO x with
  | some a, some b => some (a ++ b)
  | _, _ => none
def outS (pre : List ByteArray) : Option (List Int) := pre.foldl outF (some [])
theorem outS_snoc (pre : List ByteArray) (x : ByteArray) : outS (pre ++ [x]) = outF (outS pre) x := by simp [outS]
def parseL : List ByteArray → Nat → List Int → List Int × Int × Int
  | [], _, out => (out, 0, 0)
  | x :: r, n, out => match lineO x with
    | none => ([], (n + 1 : Nat), 5)
    | some b => parseL r (n + 1) (out ++ b)
def parseS (s : ByteArray) : List Int × Int × Int := parseL (linesB s) 0 []
theorem outF_bad (o : Option (List Int)) (x : ByteArray) (h : lineO x = none) : outF o x = none := by
  unfold outF
  rw [h]
  cases o <;> rfl
theorem outF_good (a b : List Int) (x : ByteArray) (h : lineO x = some b) : outF (some a) x = some (a ++ b) := by
  unfold outF
  rw [h]
theorem outF_none : ∀ l : List ByteArray, l.foldl outF none = none
  | [] => rfl
  | x :: r => by rw [List.foldl_cons]; exact outF_none r
theorem parseL_app : ∀ (pre r : List ByteArray) (n : Nat) (o out : List Int), pre.foldl outF (some o) = some out → parseL (pre ++ r) n o = parseL r (n + pre.length) out
  | [], r, n, o, out, h => by cases h; rfl
  | x :: p, r, n, o, out, h => by
    rw [List.foldl_cons] at h
    rw [List.cons_append, parseL]
    cases hx : lineO x with
    | none => rw [outF_bad _ _ hx, outF_none] at h; cases h
    | some b =>
      rw [outF_good _ _ _ hx] at h
      simp only
      rw [parseL_app p r (n + 1) _ _ h, List.length_cons]
      congr 1
      omega
theorem parse_all (s : ByteArray) (out : List Int) (h : outS (linesB s) = some out) : parseS s = (out, 0, 0) := by
  have := parseL_app (linesB s) [] 0 [] out h
  rw [List.append_nil] at this
  exact this
theorem parse_bad (s : ByteArray) (pre : List ByteArray) (x : ByteArray) (out : List Int) (h : outS pre = some out) (hx : lineO x = none) (hp : pre ++ [x] <+: linesB s) : parseS s = ([], Int.ofNat (pre ++ [x]).length, 5) := by
  obtain ⟨r, hr⟩ := hp
  rw [parseS, ← hr, List.append_assoc, parseL_app pre ([x] ++ r) 0 [] out h]
  show parseL (x :: r) _ _ = _
  rw [parseL, hx, List.length_append]
  simp
theorem writeS_len (c a b : Int) (h : (writeS c a b).2 = 0) : 1 ≤ (writeS c a b).1.length ∧ (writeS c a b).1.length ≤ 3 := by
  unfold writeS at *
  split at h
  · rename_i h0
    rw [if_pos h0]
    generalize opk c = k at *
    unfold writeK at *
    split at h <;> split at h <;> first | (simp at h; done) | (rename_i h1; simp only [if_pos h1]; simp)
  · simp at h
theorem lineS_len (l : List (List UInt8)) (bs : List Int) (h : lineS l = some bs) : 1 ≤ bs.length ∧ bs.length ≤ 3 := by
  have key : ∀ c a b, (if (writeS c a b).2 = 0 then some (writeS c a b).1 else none) = some bs → 1 ≤ bs.length ∧ bs.length ≤ 3 := by
    intro c a b h
    split at h
    · cases h; exact writeS_len _ _ _ ‹_›
    · cases h
  cases l with
  | nil => cases h
  | cons f r =>
    rw [lineS] at h
    split at h
    · unfold argsS at h
      split at h
      · split at h
        · exact key _ _ _ h
        · cases h
      · split at h
        · split at h
          · exact key _ _ _ h
          · cases h
        · cases h
      · split at h
        · split at h
          · exact key _ _ _ h
          · cases h
        · cases h
      · cases h
    · cases h
theorem lineO_len (x : ByteArray) (bs : List Int) (h : lineO x = some bs) : bs.length ≤ 3 := by
  unfold lineO at h
  split at h
  · cases h; simp
  · exact (lineS_len _ _ h).2
theorem outS_len : ∀ (pre : List ByteArray) (o out : List Int), pre.foldl outF (some o) = some out → out.length ≤ o.length + 3 * pre.length
  | [], o, out, h => by cases h; simp
  | x :: p, o, out, h => by
    rw [List.foldl_cons] at h
    cases hx : lineO x with
    | none => rw [outF_bad _ _ hx, outF_none] at h; cases h
    | some b =>
      rw [outF_good _ _ _ hx] at h
      have h1 := outS_len p _ _ h
      have h2 := lineO_len x b hx
      rw [List.length_append] at h1
      rw [List.length_cons]
      omega

def outV {s : ByteArray} (pre : List (LineOf s)) : List Int := (outS (lvals pre)).getD []
end Go.Proofs.YtkphijabhoppnaaDoor
