import Derived.Test.YtaloeaihnkkfeaaI1
import Derived.Laws.AppendOwn
import Derived.Laws.OwnMore
import Derived.OwnWalk
import Derived.LoopTactic
import Derived.Deep.AppendLies
import Derived.Deep.Draws
namespace Go.Proofs.Ytaloeaihnkkfeaa
open Go.RowKit

/-- A number's lowest bytes, the highest first. -/
def beL (k : Int) : Nat → List Int
  | 0 => []
  | m + 1 => k / 2 ^ (8 * m) % 256 :: beL k m
theorem beL_len (k : Int) (m : Nat) : (beL k m).length = m := by induction m with
  | zero => rfl
  | succ m ih => simp [beL, ih]
abbrev u8s (xs : List Int) : List Value := xs.map (Value.int .u8)
theorem u8s_snoc (xs : List Int) (x : Int) : u8s xs ++ [.int .u8 x] = u8s (xs ++ [x]) := by simp

theorem Try.info5 : (Try.prog.info? 5).map (fun i => (i.zero, i.size, i.bytes)) = some (some (.int .u8 0), 1, 1) := by kernel_rfl

/-- v owns just these bytes, in a block from B on. -/
def OwnsB (w : World) (B : Nat) (v : Value) (xs : List Int) : Prop := w.ownsRow B 5 1 v xs.length (u8s xs)

theorem hid {p : Prop} (h : p) : Hid p := h
/-- What an append of one byte leaves. -/
theorem own_next {w wr w1 : World} {v v' : Value} {xs : List Int} {x : Int} {o : Obj} (hb : Below w.heap.size w wr) (hown : OwnsB wr w.heap.size v xs)
    (hown' : w1.ownsRow w.heap.size 5 1 v' (xs.length + 1) (u8s xs ++ [.int .u8 x])) (hg : (wr.alloc o).grownBy w1 v.ownBlock) : OwnsB w1 w.heap.size v' (xs ++ [x]) ∧ Below w.heap.size w w1 := by
  refine ⟨?_, ?_⟩
  · unfold OwnsB; rw [u8s_snoc] at hown'; simpa using hown'
  · exact (below_alloc hb o).grown hg (by have := hb.size; simp; omega) (fun g hg' => (World.ownsRow.lt hown g hg').1)

set_option maxRecDepth 100000 in
set_option maxHeartbeats 1000000 in
theorem number_any (k : Int) (m : Nat) (w : World) (_h0 : 0 ≤ k) (_h1 : k ≤ 9223372036854775807) (hm : m ≤ 7) :
    Calls Try.prog 66 #[.int .i64 k, .int .i64 m] w fun e w' => ∃ v, e = .returned v ∧ OwnsB w' w.heap.size v (beL k m) ∧ Below w.heap.size w w' := by
  obtain ⟨i0, hi, hz0, hz1, hz2⟩ := info_parts Try.info5
  go_enter Try.func66, Try.ntmps66
  go_wp2
  go_loopw [4, 5] (fun v i wr => ∃ (j : Nat) (xs : List Int), j ≤ m ∧ i = .int .i64 ((j : Int) - 1) ∧ xs ++ beL k j = beL k m ∧ OwnsB wr w.heap.size v xs ∧ Below w.heap.size w wr) (fun _ i _ => (intOf i + 1).toNat)
  case atStart => exact ⟨m, [], Nat.le_refl _, rfl, rfl, World.ownsRow_nil _ _ _ _, Below.refl _ _⟩
  case round =>
    obtain ⟨j, xs, hj, rfl, hx, hown, hb⟩ := hrel
    replace hx : Hid (xs ++ beL k j = beL k m) := hx
    have hlen : xs.length + j = m := by
      have := congrArg List.length hx.out
      simpa [beL_len] using this
    replace hlen := And.intro (Nat.le_of_eq hlen) (Nat.le_of_eq hlen.symm)
    obtain ⟨hl1, hl2⟩ := hlen
    rcases Nat.eq_zero_or_pos j with rfl | hpos
    · go_wp2
      go_ret
      refine ⟨_, rfl, ?_, hb⟩
      rw [← hx.out]; simpa [beL] using hown
    · obtain ⟨q, rfl⟩ : ∃ q, j = q + 1 := ⟨j - 1, by omega⟩
      go_wp2_with (at_builtin; refine wpList_append_own _ rfl _ _ 62 rfl w.heap.size 5 i0 (.int .u8 0) 1 1 Try.underlying62 hi hz0 hz1 hz2 rfl (by decide) _ _ _ rfl (World.ownsRow.alloc hown _) ⟨wr.heap.size, 0, none⟩ 1 1 [.int .u8 (k / 2 ^ (8 * q) % 256)] rfl rfl ?c1 ?c2 ?c3 ?c4 ?c5 ?_)
      case c1 =>
        intro j u hj
        match j, hj with
        | 0, hj => simp at hj; subst hj; simp [Addr.add]
      case c2 => intro u hu; simp at hu; subst hu; rfl
      case c3 => unfold maxLen; omega
      case c4 => omega
      case c5 => have := hb.size; simp; omega
      intro v' w1 hown' hgrow _
      have R := own_next hb hown hown' hgrow
      have HX : Hid ((xs ++ [k / 2 ^ (8 * q) % 256]) ++ beL k q = beL k m) := hid (by have := hx.out; simpa [beL] using this)
      clear hown hown' hgrow hx
      go_wp2
      go_roundw
      case rel => exact ⟨q, xs ++ [k / 2 ^ (8 * q) % 256], by omega, by go_num, HX.out, R.1, R.2⟩
      case measure => simp [intOf]

end Go.Proofs.Ytaloeaihnkkfeaa
