/- Slices of things of several cells each, whatever they are. -/
import Derived.Test.YtckonmlcgfbojaaLib5
namespace Go.Proofs.Ytckonmlcgfbojaa
open Go.RowKit

/-- The cells of a list of things. -/
def cellsT {α : Type} (f : α → List Value) (l : List α) : List Value := l.flatMap f
theorem cellsT_nil {α : Type} (f : α → List Value) : cellsT f [] = [] := rfl
theorem cellsT_cons {α : Type} (f : α → List Value) (x : α) (l : List α) : cellsT f (x :: l) = f x ++ cellsT f l := rfl
theorem cellsT_append {α : Type} (f : α → List Value) (a b : List α) : cellsT f (a ++ b) = cellsT f a ++ cellsT f b := by simp [cellsT]
theorem cellsT_one {α : Type} (f : α → List Value) (x : α) : cellsT f [x] = f x := by simp [cellsT]
theorem cellsT_len {α : Type} {f : α → List Value} {E : Nat} (hE : ∀ x, (f x).length = E) (l : List α) : (cellsT f l).length = l.length * E := by
  induction l with
  | nil => simp [cellsT]
  | cons x l ih => rw [cellsT_cons, List.length_append, hE, ih, List.length_cons, Nat.add_mul]; omega
theorem cellsT_at {α : Type} {f : α → List Value} {E : Nat} (hE : ∀ x, (f x).length = E) (l : List α) (k : Nat) (hk : k < l.length) (j : Nat) (hj : j < E) : (cellsT f l)[k * E + j]? = (f l[k])[j]? := by
  induction l generalizing k with
  | nil => simp at hk
  | cons x l ih =>
    cases k with
    | zero => rw [cellsT_cons, Nat.zero_mul, Nat.zero_add, List.getElem?_append_left (by rw [hE]; exact hj)]; rfl
    | succ k =>
      rw [cellsT_cons, List.getElem?_append_right (by rw [hE, Nat.add_mul]; omega), hE, show (k + 1) * E + j - E = k * E + j by rw [Nat.add_mul]; omega]
      exact ih k (by simpa using hk)
theorem cellsT_drop {α : Type} {f : α → List Value} {E : Nat} (hE : ∀ x, (f x).length = E) (l : List α) (k : Nat) : (cellsT f l).drop (k * E) = cellsT f (l.drop k) := by
  induction l generalizing k with
  | nil => simp [cellsT]
  | cons x l ih =>
    cases k with
    | zero => simp
    | succ k => rw [cellsT_cons, show (k + 1) * E = (f x).length + k * E by rw [hE, Nat.add_mul]; omega, List.drop_append, List.drop_of_length_le (by omega), Nat.add_sub_cancel_left, List.nil_append, ih k, List.drop_succ_cons]
theorem cellsT_take {α : Type} {f : α → List Value} {E : Nat} (hE : ∀ x, (f x).length = E) (l : List α) (k : Nat) : (cellsT f l).take (k * E) = cellsT f (l.take k) := by
  induction l generalizing k with
  | nil => simp [cellsT]
  | cons x l ih =>
    cases k with
    | zero => simp [cellsT]
    | succ k => rw [cellsT_cons, show (k + 1) * E = (f x).length + k * E by rw [hE, Nat.add_mul]; omega, List.take_append, List.take_of_length_le (by omega), Nat.add_sub_cancel_left, ih k, List.take_succ_cons, cellsT_cons]
theorem cellsT_oneCell {α : Type} {f : α → List Value} (h1 : ∀ x, ∀ u ∈ f x, u.oneCell' = true) (l : List α) : ∀ u ∈ cellsT f l, u.oneCell' = true := by
  intro u hu
  simp only [cellsT, List.mem_flatMap] at hu
  obtain ⟨x, _, h⟩ := hu
  exact h1 x u h
/-- One thing's cells are written anew. -/
theorem cellsT_set {α : Type} {f : α → List Value} {E : Nat} (hE : ∀ x, (f x).length = E) (l : List α) (k : Nat) (hk : k < l.length) (y : α) : (cellsT f l).take (k * E) ++ f y ++ (cellsT f l).drop (k * E + E) = cellsT f (l.set k y) := by
  rw [show k * E + E = (k + 1) * E by rw [Nat.add_mul]; omega, cellsT_take hE, cellsT_drop hE, List.set_eq_take_append_cons_drop, if_pos hk, cellsT_append, cellsT_cons]
  simp

/-- v reads as the list of things l. -/
def SlT {α : Type} (f : α → List Value) (E : Nat) (w : World) (v : Value) (l : List α) : Prop := Sl w E v l.length (cellsT f l)
theorem SlT.keep {α : Type} {f : α → List Value} {E : Nat} {w w' : World} {v : Value} {l : List α} {B : Nat} (h : SlT f E w v l) (hb : Below B w w') (hB : w.heap.size ≤ B) : SlT f E w' v l := Sl.keep h hb hB
theorem SlT.nil {α : Type} (f : α → List Value) (E : Nat) (w : World) : SlT f E w (.slice none 0 0) [] := Sl.nil w E
/-- Where the k-th thing lies. -/
theorem SlT.at {α : Type} {f : α → List Value} {E : Nat} {w wr : World} {l : List α} {ao : Option Addr} {cap B : Nat} (h : SlT f E w (.slice ao l.length cap) l) (hE : ∀ x, (f x).length = E) (hp : 0 < E) (hb : Below B w wr) (hB : w.heap.size ≤ B) (k : Nat) (hk : k < l.length) :
    ∃ b off, ao = some ⟨b, off, none⟩ ∧ b < w.heap.size ∧ ∀ j u, (f l[k])[j]? = some u → wr.cell? ⟨b, off + k * E + j, none⟩ = some u := by
  obtain ⟨b, off, h1, h2, h3⟩ := Sl.at h (by rw [cellsT_len hE]; exact Nat.mul_pos (by omega) hp)
  refine ⟨b, off, h1, h2, fun j u hu => ?_⟩
  have hj : j < E := by rw [← hE l[k]]; exact (List.getElem?_eq_some_iff.1 hu).1
  rw [hb.cell (p := ⟨b, off + k * E + j, none⟩) (Nat.lt_of_lt_of_le h2 hB), Nat.add_assoc]
  exact h3 _ _ (by rw [cellsT_at hE l k hk j hj]; exact hu)

/-- Two lists, thing by thing. -/
def All2 {α β : Type} (R : α → β → Prop) : List α → List β → Prop
  | [], [] => True
  | a :: as, b :: bs => R a b ∧ All2 R as bs
  | _, _ => False
theorem All2.len {α β : Type} {R : α → β → Prop} : ∀ {as : List α} {bs : List β}, All2 R as bs → as.length = bs.length
  | [], [], _ => rfl
  | _ :: _, _ :: _, h => by rw [List.length_cons, List.length_cons, All2.len h.2]
  | [], _ :: _, h => absurd h (by simp [All2])
  | _ :: _, [], h => absurd h (by simp [All2])
theorem All2.at {α β : Type} {R : α → β → Prop} : ∀ {as : List α} {bs : List β}, All2 R as bs → ∀ k (h1 : k < as.length) (h2 : k < bs.length), R as[k] bs[k]
  | [], [], _, _, h1, _ => absurd h1 (by simp)
  | _ :: _, _ :: _, h, 0, _, _ => h.1
  | _ :: _, _ :: _, h, k + 1, h1, h2 => All2.at h.2 k (by simpa using h1) (by simpa using h2)
  | [], _ :: _, h, _, _, _ => absurd h (by simp [All2])
  | _ :: _, [], h, _, _, _ => absurd h (by simp [All2])
theorem All2.imp {α β : Type} {R S : α → β → Prop} (hRS : ∀ a b, R a b → S a b) : ∀ {as : List α} {bs : List β}, All2 R as bs → All2 S as bs
  | [], [], _ => trivial
  | _ :: _, _ :: _, h => ⟨hRS _ _ h.1, All2.imp hRS h.2⟩
  | [], _ :: _, h => absurd h (by simp [All2])
  | _ :: _, [], h => absurd h (by simp [All2])
theorem All2.append {α β : Type} {R : α → β → Prop} : ∀ {as : List α} {bs : List β} {cs : List α} {ds : List β}, All2 R as bs → All2 R cs ds → All2 R (as ++ cs) (bs ++ ds)
  | [], [], _, _, _, k => k
  | _ :: _, _ :: _, _, _, h, k => ⟨h.1, All2.append h.2 k⟩
  | [], _ :: _, _, _, h, _ => absurd h (by simp [All2])
  | _ :: _, [], _, _, h, _ => absurd h (by simp [All2])
theorem All2.take {α β : Type} {R : α → β → Prop} : ∀ {as : List α} {bs : List β} (k : Nat), All2 R as bs → All2 R (as.take k) (bs.take k)
  | _, _, 0, _ => by simp [All2]
  | [], [], _ + 1, _ => trivial
  | _ :: _, _ :: _, k + 1, h => ⟨h.1, All2.take k h.2⟩
  | [], _ :: _, _ + 1, h => absurd h (by simp [All2])
  | _ :: _, [], _ + 1, h => absurd h (by simp [All2])
theorem All2.drop {α β : Type} {R : α → β → Prop} : ∀ {as : List α} {bs : List β} (k : Nat), All2 R as bs → All2 R (as.drop k) (bs.drop k)
  | _, _, 0, h => by simpa using h
  | [], [], _ + 1, _ => trivial
  | _ :: _, _ :: _, k + 1, h => All2.drop k h.2
  | [], _ :: _, _ + 1, h => absurd h (by simp [All2])
  | _ :: _, [], _ + 1, h => absurd h (by simp [All2])
theorem All2.set {α β : Type} {R : α → β → Prop} : ∀ {as : List α} {bs : List β} (k : Nat) {a : α} {b : β}, All2 R as bs → R a b → All2 R (as.set k a) (bs.set k b)
  | [], [], _, _, _, _, _ => trivial
  | _ :: _, _ :: _, 0, _, _, h, r => ⟨r, h.2⟩
  | _ :: _, _ :: _, k + 1, _, _, h, r => ⟨h.1, All2.set k h.2 r⟩
  | [], _ :: _, _, _, _, h, _ => absurd h (by simp [All2])
  | _ :: _, [], _, _, _, h, _ => absurd h (by simp [All2])

end Go.Proofs.Ytckonmlcgfbojaa
