/- Objects in a memory: what the calls come to; no program in sight. -/
import Derived.Test.YtjeaidmmhplglaaTxnAll
import Derived.Test.YtjeaidmmhplglaaRam
set_option linter.unusedVariables false
set_option linter.unusedSimpArgs false
namespace Go.Proofs.Ytjeaidmmhplglaa.Nvm
open Go.RowKit Go.Proofs.Ytjeaidmmhplglaa.Base
/-- A word of the memory, 0 of none. -/
def hw (s : St) (at_ : Int) : Int := (tword s at_).1
/-- An object's head. -/
structure Hd where
  kind : Int
  cls : Int
  elem : Int
  owner : Int
  flags : Int
  count : Int
def Hd.zero : Hd := ⟨0, 0, 0, 0, 0, 0⟩
def enc (x : Hd) : Value := .agg #[.int .u8 x.kind, .int .i64 x.cls, .int .i64 x.elem, .int .i64 x.owner, .int .u8 x.flags, .int .i64 x.count]
/-- Is it lost at some time? -/
def lst (f : Int) : Bool := f % 4 != 0
/-- How many bytes an entry has. -/
def ksz (k : Int) : Int := if k = 5 ∨ k = 6 then 1 else 2
/-- How many words an object has. -/
def hlen (x : Hd) : Int := if lst x.flags = true then 4 else 4 + (x.count * ksz x.kind + 1) / 2
/-- A head of its four words. -/
def hdw (f g c q : Int) : Hd :=
  ⟨if 32768 ≤ f then (f - 32768) % 256 else 4, if 32768 ≤ f then -1 else f, if lst (g % 256) = true then 0 else if 32768 ≤ f ∧ (f - 32768) % 256 = 8 then q else 0, g / 256, g % 256, c⟩
def plw (g q : Int) : Int := if lst (g % 256) = true then q else 0
def hd (s : St) (at_ : Int) : Hd := hdw (hw s at_) (hw s (at_ + 1)) (hw s (at_ + 2)) (hw s (at_ + 3))
def hpl (s : St) (at_ : Int) : Int := plw (hw s (at_ + 1)) (hw s (at_ + 3))
/-- The places of objects, rising. -/
def objs (s : St) (top : Int) : Nat → Int → List Int
  | 0, _ => []
  | k + 1, a => if a + 4 ≤ top then a :: objs s top k (a + hlen (hd s a)) else []
def htop (s : St) : Int := min (hw s 256) ((s.l.length : Int) / 2)
def places (s : St) : List Int := objs s (htop s) 8192 512
/-- An object of the card's. -/
def crd (at_ : Int) : Option (Hd × Int) :=
  if at_ = 1 then some (⟨4, 14, 0, 0, 4, 0⟩, 0) else if at_ = 2 then some (⟨6, -1, 0, 0, 8, 261⟩, 0)
  else if 3 ≤ at_ ∧ at_ ≤ 12 then some (⟨4, at_ - 1, 0, 0, 4, 1⟩, 262 + 2 * (at_ - 3)) else none
/-- What is found of an object. -/
structure Fd where
  x : Hd
  p : Int
  ram : Bool
  e : Int
def hfind (s : St) (at_ : Int) : Fd :=
  if s.dark = true then ⟨.zero, 0, false, 13⟩ else
  match crd at_ with
  | some (x, p) => ⟨x, p, true, 0⟩
  | none => if at_ ∈ places s then (if lst (hd s at_).flags = true then ⟨hd s at_, hpl s at_, true, 0⟩ else ⟨hd s at_, 2 * (at_ + 4), false, 0⟩) else ⟨.zero, 0, false, 6⟩
/-- Where an entry stands. -/
structure Sl where
  p : Int
  z : Int
  ram : Bool
  e : Int
def hslot (s : St) (at_ i : Int) : Sl :=
  if (hfind s at_).e ≠ 0 then ⟨0, 0, false, (hfind s at_).e⟩ else if i < 0 ∨ (hfind s at_).x.count ≤ i then ⟨0, 0, false, 2⟩
  else ⟨(hfind s at_).p + ksz (hfind s at_).x.kind * i, ksz (hfind s at_).x.kind, (hfind s at_).ram, 0⟩
/-- A byte with its sign, as a word. -/
def sg (b : Int) : Int := if 128 ≤ b then 65280 + b else b
/-- The ram's calls. -/
def rIs (a n : Int) : Bool := decide (0 ≤ a ∧ 0 ≤ n ∧ a ≤ 1024 ∧ n ≤ 1024 - a)
def rbyte (m : List Int) (a : Int) : Int × Int := if rIs a 1 = true then (m.getD a.toNat 0, 0) else (0, 2)
def rword (m : List Int) (a : Int) : Int × Int := if rIs a 2 = true then (256 * m.getD a.toNat 0 + m.getD (a.toNat + 1) 0, 0) else (0, 2)
def rputb (m : List Int) (a b : Int) : List Int × Int := if rIs a 1 = true then (m.set a.toNat b, 0) else (m, 2)
def rputw (m : List Int) (a v : Int) : List Int × Int := if rIs a 2 = true then ((m.set a.toNat (v / 256)).set (a.toNat + 1) (v % 256), 0) else (m, 2)
def rclear (m : List Int) (a n : Int) : List Int × Int := if rIs a n = true then (Ram.zap m a.toNat n.toNat, 0) else (m, 2)
def rput (m : List Int) (p z v : Int) : List Int × Int := if z = 2 then rputw m p v else rputb m p (v % 256)
/-- An entry's worth. -/
def hget (s : St) (m : List Int) (at_ i : Int) : Int × Int :=
  if (hslot s at_ i).e ≠ 0 then (0, (hslot s at_ i).e)
  else if (hslot s at_ i).z = 2 then (if (hslot s at_ i).ram = true then rword m (hslot s at_ i).p else tword s ((hslot s at_ i).p / 2))
  else if (hslot s at_ i).ram = true then (sg (rbyte m (hslot s at_ i).p).1, (rbyte m (hslot s at_ i).p).2) else (sg (tbyte s (hslot s at_ i).p).1, (tbyte s (hslot s at_ i).p).2)
/-- An entry is put. -/
def hput (s : St) (m : List Int) (at_ i v : Int) : St × List Int × Int :=
  if (hslot s at_ i).e ≠ 0 then (s, m, (hslot s at_ i).e)
  else if (hslot s at_ i).ram = true then (s, rput m (hslot s at_ i).p (hslot s at_ i).z v)
  else if (hslot s at_ i).z = 2 then ((tput s ((hslot s at_ i).p / 2) v).1, m, (tput s ((hslot s at_ i).p / 2) v).2)
  else ((tputb s (hslot s at_ i).p (v % 256)).1, m, (tputb s (hslot s at_ i).p (v % 256)).2)
def ftraw (at_ v : Int) : St → St × Int := fun s => traw s at_ v
def hrawl (p z v : Int) : List (St → St × Int) := if z = 2 then [ftraw p (v / 256), ftraw (p + 1) (v % 256)] else [ftraw p (v % 256)]
def hraw (s : St) (m : List Int) (at_ i v : Int) : St × List Int × Int :=
  if (hslot s at_ i).e ≠ 0 then (s, m, (hslot s at_ i).e)
  else if (hslot s at_ i).ram = true then (s, rput m (hslot s at_ i).p (hslot s at_ i).z v)
  else ((runs (hrawl (hslot s at_ i).p (hslot s at_ i).z v) s).1, m, (runs (hrawl (hslot s at_ i).p (hslot s at_ i).z v) s).2)
/-- May an object be made? -/
def hmay (x : Hd) : Bool :=
  decide (4 ≤ x.kind ∧ x.kind ≤ 8 ∧ (if x.kind = 4 then 0 ≤ x.cls ∧ x.cls ≤ 32767 else x.cls = -1) ∧ (if x.kind = 8 then 0 ≤ x.elem ∧ x.elem ≤ 32767 else x.elem = 0) ∧
    (if x.kind = 4 ∨ x.kind = 8 then x.flags = 0 else x.flags ≤ 2) ∧ 0 ≤ x.owner ∧ x.owner ≤ 255 ∧ 0 ≤ x.count ∧ x.count ≤ 2000)
/-- The words of a new object. -/
def hws (x : Hd) (place : Int) : List Int :=
  [if x.kind = 4 then x.cls else 32768 + x.kind, 256 * x.owner + x.flags, x.count, if lst x.flags = true then place else x.elem] ++ List.replicate ((hlen x).toNat - 4) 0
def rawws (at_ : Int) : List Int → List (St → St × Int)
  | [] => []
  | v :: l => ftraw (2 * at_) (v / 256) :: ftraw (2 * at_ + 1) (v % 256) :: rawws (at_ + 1) l
def ftput (at_ v : Int) : St → St × Int := fun s => tput s at_ v
def hmake (s : St) (m : List Int) (x : Hd) : St × List Int × Int × Int :=
  if hmay x = false then (s, m, 0, 2) else if s.dark = true then (s, m, 0, 13)
  else if (s.l.length : Int) / 2 < hw s 256 + hlen x ∨ (lst x.flags = true ∧ 1024 < hw s 257 + x.count * ksz x.kind) then (s, m, 0, 11)
  else if (runs (rawws (hw s 256) (hws x (hw s 257))) s).2 ≠ 0 then ((runs (rawws (hw s 256) (hws x (hw s 257))) s).1, m, 0, (runs (rawws (hw s 256) (hws x (hw s 257))) s).2)
  else if lst x.flags = true then
    (if (runs [ftput 257 (hw s 257 + x.count * ksz x.kind), ftput 256 (hw s 256 + hlen x)] (runs (rawws (hw s 256) (hws x (hw s 257))) s).1).2 ≠ 0
     then ((runs [ftput 257 (hw s 257 + x.count * ksz x.kind), ftput 256 (hw s 256 + hlen x)] (runs (rawws (hw s 256) (hws x (hw s 257))) s).1).1, (rclear m (hw s 257) (x.count * ksz x.kind)).1, 0, (runs [ftput 257 (hw s 257 + x.count * ksz x.kind), ftput 256 (hw s 256 + hlen x)] (runs (rawws (hw s 256) (hws x (hw s 257))) s).1).2)
     else ((runs [ftput 257 (hw s 257 + x.count * ksz x.kind), ftput 256 (hw s 256 + hlen x)] (runs (rawws (hw s 256) (hws x (hw s 257))) s).1).1, (rclear m (hw s 257) (x.count * ksz x.kind)).1, hw s 256, 0))
  else
    (if (tput (runs (rawws (hw s 256) (hws x (hw s 257))) s).1 256 (hw s 256 + hlen x)).2 ≠ 0 then ((tput (runs (rawws (hw s 256) (hws x (hw s 257))) s).1 256 (hw s 256 + hlen x)).1, m, 0, (tput (runs (rawws (hw s 256) (hws x (hw s 257))) s).1 256 (hw s 256 + hlen x)).2)
     else ((tput (runs (rawws (hw s 256) (hws x (hw s 257))) s).1 256 (hw s 256 + hlen x)).1, m, hw s 256, 0))
/-- What an owner's lost objects have is lost. -/
def loses (s : St) (owner flags : Int) : List Int → List Int → List Int
  | [], m => m
  | a :: l, m => loses s owner flags l (if lst (hd s a).flags = true ∧ (hd s a).flags = flags ∧ (hd s a).owner = owner then (rclear m (hpl s a) ((hd s a).count * ksz (hd s a).kind)).1 else m)
def hlose (s : St) (m : List Int) (owner flags : Int) : List Int × Int := if s.dark = true then (m, 13) else (loses s owner flags (places s) m, 0)
def card12 : List Int := [1, 2, 3, 4, 5, 6, 7, 8, 9, 10, 11, 12]
def hall (s : St) : List Int × Int := if s.dark = true then ([], 13) else (card12 ++ places s, 0)
def hroom (s : St) : Int × Int × Int := if s.dark = true then (0, 0, 13) else (max 0 ((s.l.length : Int) / 2 - hw s 256), max 0 (1024 - hw s 257), 0)
/-! Bounds. -/
theorem hw_b {s : St} (h : Ok s) (at_ : Int) : 0 ≤ hw s at_ ∧ hw s at_ ≤ 65535 := by
  unfold hw tword
  split
  · exact pr_by h.by_ _
  · simp
theorem ksz_b (k : Int) : ksz k = 1 ∨ ksz k = 2 := by unfold ksz; split <;> simp
structure Hd.B (x : Hd) : Prop where
  k0 : 0 ≤ x.kind
  k1 : x.kind ≤ 255
  c0 : -1 ≤ x.cls
  c1 : x.cls ≤ 65535
  e0 : 0 ≤ x.elem
  e1 : x.elem ≤ 65535
  o0 : 0 ≤ x.owner
  o1 : x.owner ≤ 255
  f0 : 0 ≤ x.flags
  f1 : x.flags ≤ 255
  n0 : 0 ≤ x.count
  n1 : x.count ≤ 65535
theorem hdw_b {f g c q : Int} (f0 : 0 ≤ f) (f1 : f ≤ 65535) (g0 : 0 ≤ g) (g1 : g ≤ 65535) (c0 : 0 ≤ c) (c1 : c ≤ 65535) (q0 : 0 ≤ q) (q1 : q ≤ 65535) : (hdw f g c q).B := by
  constructor <;> unfold hdw <;> dsimp only <;> (repeat' split) <;> omega
theorem hd_b {s : St} (h : Ok s) (at_ : Int) : (hd s at_).B := hdw_b (hw_b h _).1 (hw_b h _).2 (hw_b h _).1 (hw_b h _).2 (hw_b h _).1 (hw_b h _).2 (hw_b h _).1 (hw_b h _).2
theorem hlen_b {x : Hd} (h : x.B) : 4 ≤ hlen x ∧ hlen x ≤ 65540 := by
  have := h.n0
  have := h.n1
  unfold hlen
  split
  · omega
  · rcases ksz_b x.kind with e | e <;> rw [e] <;> omega
theorem hpl_b {s : St} (h : Ok s) (at_ : Int) : 0 ≤ hpl s at_ ∧ hpl s at_ ≤ 65535 := by
  have := hw_b h (at_ + 3)
  unfold hpl plw
  split <;> omega
theorem objs_b {s : St} (h : Ok s) (top : Int) : ∀ (k : Nat) (a : Int), 512 ≤ a → ∀ x ∈ objs s top k a, 512 ≤ x ∧ x + 4 ≤ top
  | 0, _, _, x, hx => by simp [objs] at hx
  | k + 1, a, ha, x, hx => by
    unfold objs at hx
    split at hx
    · rcases List.mem_cons.1 hx with rfl | hx
      · exact ⟨ha, by assumption⟩
      · exact objs_b h top k _ (by have := (hlen_b (hd_b h a)).1; omega) x hx
    · simp at hx
theorem places_b {s : St} (h : Ok s) {x : Int} (hx : x ∈ places s) : 512 ≤ x ∧ x + 4 ≤ 32768 ∧ 2 * x + 8 ≤ s.l.length := by
  have := objs_b h _ _ _ (by omega) x hx
  have hl := h.len1
  unfold htop at this
  omega
end Go.Proofs.Ytjeaidmmhplglaa.Nvm
