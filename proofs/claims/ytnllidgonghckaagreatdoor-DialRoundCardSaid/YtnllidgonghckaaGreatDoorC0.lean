/- What the laws' proofs have in common: contracts of the program's functions, whatever memory they are called in. Conditions stand in each statement (part 1 of 12). -/
namespace Go.Proofs.YtnllidgonghckaaGreatDoor.Dm
def leapB (cs : List Int) (y : Int) : Bool := cs.foldl (fun b n => if y.tmod n = 0 then !b else b) false
def ylen (cs : List Int) (y : Int) : Int := if leapB cs y then 366 else 365
def fday (ep : Int) (cs : List Int) : Nat → Int
  | 0 => ep
  | y + 1 => fday ep cs y + ylen cs y
def firsts (ep : Int) (cs : List Int) : List Int := (List.range 4002).map (fday ep cs)
def mlist (lp : Bool) : List Int := [31, if lp then 29 else 28, 31, 30, 31, 30, 31, 31, 30, 31, 30, 31]
def incr : Int → List Int → Bool
  | _, [] => true
  | last, n :: r => decide (last + 1 ≤ n) && decide (n ≤ 1000) && incr n r
def calB (ep : Int) (cs : List Int) : Bool := decide (0 ≤ ep) && decide (ep ≤ 1000) && decide (1 ≤ cs.length) && decide (cs.length ≤ 3) && incr 1 cs
def yearB (y : Int) : Bool := decide (0 ≤ y) && decide (y ≤ 4000)
def dayB (d : Int) : Bool := decide (0 ≤ d) && decide (d ≤ 2000000)
theorem ylen_range (cs : List Int) (y : Int) : 365 ≤ ylen cs y ∧ ylen cs y ≤ 366 := by unfold ylen; split <;> omega
theorem fday_range (ep : Int) (cs : List Int) (y : Nat) : ep + 365 * y ≤ fday ep cs y ∧ fday ep cs y ≤ ep + 366 * y := by
  induction y with
  | zero => simp [fday]
  | succ y ih => have := ylen_range cs y; simp only [fday]; omega
theorem firsts_length (ep : Int) (cs : List Int) : (firsts ep cs).length = 4002 := by simp [firsts]
theorem firsts_get (ep : Int) (cs : List Int) (y : Nat) (h : y < 4002) : (firsts ep cs)[y]? = some (fday ep cs y) := by simp [firsts, h]
theorem firsts_getElem (ep : Int) (cs : List Int) (y : Nat) (h : y < (firsts ep cs).length) : (firsts ep cs)[y] = fday ep cs y := by
  have h' : y < 4002 := by rw [firsts_length] at h; exact h
  have := firsts_get ep cs y h'
  rw [List.getElem?_eq_getElem h] at this
  exact Option.some.inj this
attribute [irreducible] firsts
theorem mlist_length (lp : Bool) : (mlist lp).length = 12 := rfl
theorem mlist_sum (lp : Bool) : (mlist lp).foldl (· + ·) 0 = if lp then 366 else 365 := by cases lp <;> rfl
theorem incr_mem : ∀ (l : Int) (cs : List Int), 1 ≤ l → incr l cs = true → ∀ n ∈ cs, 2 ≤ n ∧ n ≤ 1000
  | _, [], _, _ => fun n hn => by simp at hn
  | l, m :: r, hl, h => by
    simp only [incr, Bool.and_eq_true, decide_eq_true_eq] at h
    obtain ⟨⟨h1, h2⟩, h3⟩ := h
    intro n hn
    rcases List.mem_cons.1 hn with rfl | hn
    · omega
    · exact incr_mem m r (by omega) h3 n hn
theorem calB_iff {ep : Int} {cs : List Int} (h : calB ep cs = true) : 0 ≤ ep ∧ ep ≤ 1000 ∧ 1 ≤ cs.length ∧ cs.length ≤ 3 ∧ (∀ n ∈ cs, 2 ≤ n ∧ n ≤ 1000) := by
  simp only [calB, Bool.and_eq_true, decide_eq_true_eq] at h
  exact ⟨h.1.1.1.1, h.1.1.1.2, h.1.1.2, h.1.2, incr_mem 1 cs (by omega) h.2⟩
end Go.Proofs.YtnllidgonghckaaGreatDoor.Dm
