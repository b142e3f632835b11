/- Sessions, the plain part: a text cut at a byte, and strings.Split. Sessions: the numbers of a word, a span, and their texts. Sessions: a span that is read, and the text of one, and of many. -/
import Derived.Test.YtmjcnpolnknkkaaGreatDoorZ1
import Derived.Test.YtmjcnpolnknkkaaGreatDoorPShf
import Derived.Lib.SplitLaws
import Derived.Lib.IndexBytes
import Derived.Shelf.Strings.Split
import Derived.Test.YtmjcnpolnknkkaaGreatDoorPOwnS
import Derived.Test.YtmjcnpolnknkkaaGreatDoorPDoor
import Derived.BigQuiet
import Derived.Deep.QuietTactic
import Derived.Test.YtmjcnpolnknkkaaGreatDoorPOwnk
import Derived.BigRegion
import Derived.RegionTactic
set_option linter.unusedVariables false
set_option linter.unusedSimpArgs false
namespace Go.Proofs.YtmjcnpolnknkkaaGreatDoor
open Go.RowKit

/-- A text cut at each c. -/
def splitF (c : UInt8) : List UInt8 → List (List UInt8)
  | [] => [[]]
  | x :: l => if x = c then [] :: splitF c l else match splitF c l with
    | [] => [[x]]
    | w :: r => (x :: w) :: r
theorem split_pos (c : UInt8) : ∀ s, 0 < (splitF c s).length
  | [] => by simp [splitF]
  | x :: l => by
    unfold splitF
    split
    · simp
    · split <;> simp
theorem splitF_no {c : UInt8} : ∀ {s : List UInt8}, (∀ x ∈ s, x ≠ c) → splitF c s = [s]
  | [], _ => rfl
  | x :: l, h => by
    unfold splitF
    rw [if_neg (h x (by simp)), splitF_no (fun y hy => h y (by simp [hy]))]
theorem splitF_yes {c : UInt8} (b : List UInt8) : ∀ {a : List UInt8}, (∀ x ∈ a, x ≠ c) → splitF c (a ++ c :: b) = a :: splitF c b
  | [], _ => by
    show splitF c (c :: b) = [] :: splitF c b
    conv => lhs; unfold splitF
    rw [if_pos rfl]
  | x :: l, h => by
    show splitF c (x :: (l ++ c :: b)) = _
    conv => lhs; unfold splitF
    rw [if_neg (h x (by simp)), splitF_yes b (fun y hy => h y (by simp [hy]))]
theorem cut_cases (c : UInt8) : ∀ s : List UInt8, (∀ x ∈ s, x ≠ c) ∨ ∃ a b, s = a ++ c :: b ∧ ∀ x ∈ a, x ≠ c
  | [] => .inl (fun x hx => by cases hx)
  | x :: l => by
    by_cases h : x = c
    · subst h; exact .inr ⟨[], l, rfl, fun y hy => by cases hy⟩
    · rcases cut_cases c l with h1 | ⟨a, b, rfl, h1⟩
      · refine .inl fun y hy => ?_
        rcases List.mem_cons.1 hy with rfl | hy
        · exact h
        · exact h1 y hy
      · refine .inr ⟨x :: a, b, rfl, fun y hy => ?_⟩
        rcases List.mem_cons.1 hy with rfl | hy
        · exact h
        · exact h1 y hy
theorem ixb_no {c : UInt8} : ∀ {l : List UInt8}, (∀ x ∈ l, x ≠ c) → Lib.indexByte l c = -1
  | [], _ => rfl
  | x :: l, h => by
    unfold Lib.indexByte
    have h1 := ixb_no (l := l) (fun y hy => h y (by simp [hy]))
    have h2 : x ≠ c := h x (by simp)
    rw [h1]
    simp [h2]
theorem ixb_yes {c : UInt8} (b : List UInt8) : ∀ {a : List UInt8}, (∀ x ∈ a, x ≠ c) → Lib.indexByte (a ++ c :: b) c = (a.length : Int)
  | [], _ => by
    show Lib.indexByte (c :: b) c = _
    unfold Lib.indexByte
    simp
  | x :: l, h => by
    show Lib.indexByte (x :: (l ++ c :: b)) c = _
    conv => lhs; unfold Lib.indexByte
    have h1 := ixb_yes b (a := l) (fun y hy => h y (by simp [hy]))
    have h2 : x ≠ c := h x (by simp)
    rw [h1]
    simp [h2]
    try omega
theorem split_is (c : UInt8) : ∀ (n : Nat) (s : List UInt8), s.length ≤ n → Lib.splitK [c] 0 (Lib.count s [c]) s = splitF c s
  | n, s, hn => by
    rcases cut_cases c s with h | ⟨a, b, rfl, h⟩
    · rw [Lib.count_miss (by rw [Lib.index_one]; exact ixb_no h), splitF_no h]
      rfl
    · have hi : Lib.index (a ++ c :: b) [c] = (a.length : Nat) := by rw [Lib.index_one]; exact ixb_yes b h
      have hd : (a ++ c :: b).drop (a.length + 1) = b := by
        rw [List.drop_append]
        simp
      have hlen : b.length ≤ n - 1 := by simp at hn; omega
      have hn1 : 1 ≤ n := by simp at hn; omega
      rw [Lib.count_hit (by simp) hi, splitF_yes b h, List.length_singleton, hd, Nat.add_comm 1]
      show (if Lib.index (a ++ c :: b) [c] == -1 then _ else _) = _
      rw [hi, if_neg (by first | (simp; done) | (simp; omega))]
      have e : ((a.length : Int)).toNat = a.length := by omega
      have e2 : ((a.length : Nat) : Int).toNat + 0 = a.length := by omega
      rw [e2, e, List.length_singleton, hd, split_is c (n - 1) b hlen]
      simp
termination_by n => n
decreasing_by omega
theorem splitB_is (c : UInt8) (s : List UInt8) : (Lib.splitB ⟨#[c]⟩ 0 (Lib.countB ⟨s.toArray⟩ ⟨#[c]⟩) ⟨s.toArray⟩).map Value.string = (splitF c s).map strV := by
  have h1 := Lib.splitB_data ⟨#[c]⟩ 0 (Lib.countB ⟨s.toArray⟩ ⟨#[c]⟩) ⟨s.toArray⟩
  have h2 : Lib.countB ⟨s.toArray⟩ ⟨#[c]⟩ = Lib.count s [c] := by
    unfold Lib.countB
    simp
  rw [h2] at h1 ⊢
  have h3 : Lib.splitK (⟨#[c]⟩ : ByteArray).data.toList 0 (Lib.count s [c]) (⟨s.toArray⟩ : ByteArray).data.toList = splitF c s := by
    have := split_is c s.length s (Nat.le_refl _)
    simpa using this
  rw [h3] at h1
  rw [← h1, List.map_map]
  apply List.map_congr_left
  intro x _
  show Value.string x = strV x.data.toList
  unfold strV
  simp
set_option maxRecDepth 100000 in
set_option maxHeartbeats 1000000 in
theorem sindex_any (x : ByteArray) (c : UInt8) (w : World) : Calls Tryz.prog 112 #[.string x, .string ⟨#[c]⟩] w fun e w' => e = .returned (.int .i64 (Lib.indexByte x.data.toList c)) ∧ w' = w := by
  go_enter Tryz.func112, Tryz.ntmps112
  go_wp2_with (go_at_call 124; refine (Tryz.stringslite_Index_one x c _).mono ?_; rintro e w' ⟨rfl, rfl⟩)
  go_ret
  exact ⟨rfl, rfl⟩
set_option maxRecDepth 100000 in
set_option maxHeartbeats 4000000 in
/-- strings.Split at one byte. -/
theorem split_any (c : UInt8) (s : List UInt8) (w : World) (hs : s.length < 4294967281) :
    Calls Tryz.prog 132 #[.string ⟨s.toArray⟩, .string ⟨#[c]⟩] w fun e w' => e = .returned (.slice (some ⟨w.heap.size, 0, none⟩) (splitF c s).length (splitF c s).length) ∧ w' = w.alloc (.cells ((splitF c s).map strV).toArray 9) := by
  have h1 : 1 ≤ (⟨#[c]⟩ : ByteArray).size := by simp [ByteArray.size]
  have hsz : (⟨s.toArray⟩ : ByteArray).size = s.length := by simp [ByteArray.size]
  have hle := Lib.countB_le (⟨#[c]⟩ : ByteArray) h1 s.length ⟨s.toArray⟩ (by omega)
  have hlen := Lib.splitB_all (⟨#[c]⟩ : ByteArray) h1 0 _ (⟨s.toArray⟩ : ByteArray) rfl
  have hN : (Lib.countB ⟨s.toArray⟩ ⟨#[c]⟩ + 1 : Nat) = (splitF c s).length := by
    have := congrArg List.length (splitB_is c s)
    rw [List.length_map, List.length_map, hlen] at this
    exact this
  have hix : ∀ x : ByteArray, Lib.indexB x ⟨#[c]⟩ = Lib.indexByte x.data.toList c := fun x => by
    have := Lib.index_one x.data.toList c
    unfold Lib.indexB
    simpa using this
  have h2 : Lib.countB ⟨s.toArray⟩ ⟨#[c]⟩ = s.count c := by
    have := Lib.count_one c s
    unfold Lib.countB
    simpa using this
  have hcn : Calls Tryz.prog 76 #[.string ⟨s.toArray⟩, .string ⟨#[c]⟩] w fun e w' => e = .returned (.int .i64 (Lib.countB ⟨s.toArray⟩ ⟨#[c]⟩ : Nat)) ∧ w' = w := by
    refine (Tryz.strings_Count_one ⟨s.toArray⟩ c w).mono ?_
    rintro e w' ⟨rfl, rfl⟩
    refine ⟨?_, rfl⟩
    rw [h2]
    simp [Lib.countByte]
  have core := Any.strings_genSplit_core { Tryz.lays146 with } (by kernel_rfl) ⟨s.toArray⟩ ⟨#[c]⟩ 0 (-1) (Lib.countB ⟨s.toArray⟩ ⟨#[c]⟩ + 1) w (by omega) h1 (Nat.zero_le _)
    (fun x cs _ => (sindex_any x c _).mono fun e w' h => ⟨by rw [h.1, hix], h.2⟩)
    hcn (by decide) (by decide) (by rw [if_pos (by decide)]; omega)
  rw [Nat.add_sub_cancel, hlen] at core
  have e2 : Lib.cellsOf (Lib.splitB (⟨#[c]⟩ : ByteArray) 0 (Lib.countB ⟨s.toArray⟩ ⟨#[c]⟩) ⟨s.toArray⟩) (Lib.countB ⟨s.toArray⟩ ⟨#[c]⟩ + 1) = ((Lib.splitB (⟨#[c]⟩ : ByteArray) 0 (Lib.countB ⟨s.toArray⟩ ⟨#[c]⟩) ⟨s.toArray⟩).map Value.string).toArray := by rw [← hlen]; exact Lib.cellsOf_full _
  rw [e2, splitB_is, hN] at core
  have HC := hid core
  clear core e2 hcn h2 hix hN hlen hle hsz h1 hs
  go_enter Tryz.func132, Tryz.ntmps132
  go_wp2_with (go_at_call 168; refine (HC.out).mono ?_; rintro e w' ⟨rfl, rfl⟩)
  go_ret
  exact ⟨rfl, rfl⟩
end Go.Proofs.YtmjcnpolnknkkaaGreatDoor

set_option linter.unusedVariables false
set_option linter.unusedSimpArgs false
namespace Go.Proofs.YtmjcnpolnknkkaaGreatDoor
open Go.RowKit

theorem split_len (c : UInt8) : ∀ s : List UInt8, (splitF c s).length ≤ s.length + 1 ∧ ∀ x ∈ splitF c s, x.length ≤ s.length
  | [] => ⟨by simp [splitF], fun x hx => by simp [splitF] at hx; subst hx; simp⟩
  | y :: l => by
    obtain ⟨h1, h2⟩ := split_len c l
    have hp := split_pos c l
    unfold splitF
    split
    · refine ⟨by simp only [List.length_cons]; omega, fun x hx => ?_⟩
      rcases List.mem_cons.1 hx with rfl | hx
      · simp
      · have := h2 x hx; simp only [List.length_cons]; omega
    · cases he : splitF c l with
      | nil => rw [he] at hp; simp at hp
      | cons v r =>
        rw [he] at h1 h2
        dsimp only
        refine ⟨by simp only [List.length_cons] at h1 ⊢; omega, fun x hx => ?_⟩
        rcases List.mem_cons.1 hx with rfl | hx
        · have := h2 v (by simp); simp only [List.length_cons]; omega
        · have := h2 x (by simp [hx]); simp only [List.length_cons]; omega
theorem split_at {c : UInt8} {s : List UInt8} {k : Nat} (hk : k < (splitF c s).length) : ((splitF c s)[k]?.getD []).length ≤ s.length :=
  (split_len c s).2 _ (by rw [List.getElem?_eq_getElem hk]; exact List.getElem_mem hk)
/-- A row of ints of one's own, as it is read. -/
theorem own_read {w : World} {base n : Nat} {v : Value} {l : List Int} (h : w.ownsRow base 3 1 v n (ints l)) (hn : l.length = n) : ∃ A c, v = .slice A l.length c ∧ RdI w A l ∧ l.length ≤ c := by
  by_cases h0 : n = 0
  · subst h0
    obtain rfl : l = [] := by cases l with | nil => rfl | cons _ _ => simp at hn
    rcases h.2 with ⟨hv, _⟩ | ⟨g, cap, cur, hv, _⟩
    · exact ⟨none, 0, hv, fun h => absurd rfl h, Nat.le_refl _⟩
    · exact ⟨_, cap, hv, fun h => absurd rfl h, Nat.zero_le _⟩
  · subst hn
    obtain ⟨g, cp, hv, _, hg⟩ := own_form h (by omega)
    refine ⟨_, cp, hv, rdi_own h hv hg, ?_⟩
    rcases h.2 with ⟨_, h2⟩ | ⟨g', cap', cur, hv', _, _, hle, _⟩
    · omega
    · rw [hv] at hv'; injection hv' with _ _ e3; omega
theorem ownsUp {w w' : World} {base : Nat} {T : TypeId} {n m : Nat} {v : Value} {xs : List Value} (h : w.ownsRow base T n v m xs) (hu : Up w w') : w'.ownsRow base T n v m xs :=
  World.ownsRow.kept h (row := none) (grown_up hu) (by cases v.ownBlock <;> simp)
/-- What a session's laws share: the door, the tables, strconv's errors, and what cannot be read. -/
structure DoorR (W : World) : Prop where
  door : Door W
  pow : Pow W
  errs : Errs W
  unread : W.cell? ⟨1, 0, none⟩ = some (.iface 74 (.int .i64 2))
theorem DoorR.up {w w' : World} (h : DoorR w) (hu : Up w w') : DoorR w' :=
  ⟨h.door.up hu, h.pow.up hu, h.errs.up hu, ((bcell hu).1 _ _ (World.block_lt_of_cell? w _ h.unread)).trans h.unread⟩
def unV : Value := .iface 117 (.agg #[.iface 74 (.int .i64 2)])
def numsF : List (List UInt8) → Option (List Int)
  | [] => some []
  | w :: r => match parseF w with
    | .error _ => none
    | .ok n => match numsF r with
      | none => none
      | some l => some (n :: l)
def rnumsF (s : List UInt8) : Option (List Int) := numsF (splitF 44 s)
def preN (L : List Int) : Option (List Int) → Option (List Int)
  | none => none
  | some r => some (L ++ r)
theorem preN_nil (r : Option (List Int)) : preN [] r = r := by cases r <;> rfl
theorem nums_bad {w : List UInt8} {r : List (List UInt8)} {L : List Int} {e : Nat} (h : parseF w = .error e) : preN L (numsF (w :: r)) = none := by
  unfold numsF; rw [h]; rfl
theorem nums_good {w : List UInt8} {r : List (List UInt8)} {L : List Int} {n : Int} (h : parseF w = .ok n) : preN L (numsF (w :: r)) = preN (L ++ [n]) (numsF r) := by
  conv => lhs; unfold numsF
  rw [h]
  dsimp only
  cases numsF r with
  | none => rfl
  | some l => simp [preN]
theorem wdrop (l : List (List UInt8)) (k : Nat) (h : k < l.length) : l.drop k = (l[k]?.getD []) :: l.drop (k + 1) := by
  rw [List.drop_eq_getElem_cons h, List.getElem?_eq_getElem h]; rfl
theorem cells_at (w : World) (l : List (List UInt8)) (T : TypeId) (k : Nat) (hk : k < l.length) : (w.alloc (.cells (l.map strV).toArray T)).cell? ⟨w.heap.size, k, none⟩ = some (strV (l[k]?.getD [])) := by
  rw [List.getElem?_eq_getElem hk]
  unfold World.cell?
  rw [heap_alloc_new]
  simp [hk]
def numR (w : World) : Option (List Int) → Value → Prop
  | none, v => v = .tuple #[.slice none 0 0, unV]
  | some l, v => ∃ A c, v = .tuple #[.slice A l.length c, .nilIface] ∧ RdI w A l ∧ l.length ≤ c
set_option maxRecDepth 100000 in
set_option maxHeartbeats 4000000 in
theorem numbers_any (s : List UInt8) (w : World) (hs : s.length ≤ 4000) (hd : DoorR w) : Calls Tryz.prog 178 #[.string ⟨s.toArray⟩] w (RetR numR (rnumsF s) w) := by
  have HS := hid (fun W => split_any 44 s W (by omega))
  have HD := hid hd
  have HL := hid (split_len 44 s).1; have HP := hid (split_pos 44 s)
  have HA := hid (fun k (hk : k < (splitF 44 s).length) => Nat.le_trans (split_at hk) hs)
  have HN := hid (show rnumsF s = numsF (splitF 44 s) from rfl)
  have Hs := hid hs
  obtain ⟨i0, hi0, hz0, hz1, hz2⟩ := info_parts Tryz.infoInt
  clear hd hs
  generalize splitF 44 s = W at *
  have hWl : W.length ≤ 4001 := by have := HL.out; have := Hs.out; omega
  go_enter Tryz.func178, Tryz.ntmps178
  go_wp2_with (first
                        | (go_at_call 132; (with_reducible refine (HS.out _).mono ?_); rintro e w1 ⟨rfl, hw1⟩; (have hb1 : Up w w1 := (by rw [hw1]; exact (Up.refl w).alloc _)); have C1 := hid (fun k hk => (by rw [hw1]; exact cells_at w W _ k hk : w1.cell? ⟨w.heap.size, k, none⟩ = some (strV (W[k]?.getD [])))); (have hsz : w.heap.size < w1.heap.size := (by rw [hw1]; simp)); clear hw1))
  go_loopw [4, 6, 7, 8, 12] (fun v _ _ _ i wr => ∃ (k : Nat) (L : List Int), k ≤ W.length ∧ i = .int .i64 k ∧ Hid (L.length = k) ∧ wr.ownsRow w1.heap.size 3 1 v L.length (ints L) ∧ Up w1 wr ∧ Hid (numsF W = preN L (numsF (W.drop k)))) (fun _ _ _ _ i _ => W.length - (intOf i).toNat)
  case atStart => exact ⟨0, [], by omega, rfl, rfl, World.ownsRow_nil _ _ _ _, Up.refl _, by show _ = _; rw [preN_nil]; rfl⟩
  case round =>
    obtain ⟨k, L, hk, rfl, HLk, hown, hU, H⟩ := hrel
    have hk0 : (0 : Int) ≤ (k : Int) := by omega
    by_cases hlt : k < W.length
    · have hkl : (k : Int) < (W.length : Int) := by omega
      have hkd : decide ((k : Int) < (W.length : Int)) = true := decide_eq_true hkl
      have qk := ((bcell hU).1 _ _ hsz).trans (C1.out k hlt)
      have hm := HA.out k hlt
      have Hdr := hid (wdrop W k hlt)
      have HJ := hid hlt
      have hDr := HD.out.up (hb1.call hU)
      have HPW := hid hDr.pow; have HER := hid hDr.errs; have HUN := hid hDr.unread
      have HOW := hid hown
      generalize W[k]?.getD [] = y at *
      have HM := hid (show y.length ≤ 1048576 by omega)
      rw [strV_eq] at qk
      clear hlt hDr hm hown
      cases hp : parseF y with
      | error e =>
        have Hp := hid hp
        clear hp
        have hun := HUN.out
        go_wp2_with (first
                        | ((go_at_call 18; (with_reducible refine (parse_any y HM.out _ HPW.out HER.out).mono ?_); rintro e w2 ⟨x2, hx2, rfl, hb2⟩ <;> (rw [Hp.out] at hx2; subst hx2; dsimp only [paR]; have hun2 := ((bcell hb2).1 _ _ (World.block_lt_of_cell? _ _ HUN.out)).trans HUN.out)) <;> (have hle := Up.le hb2; (try simp only [World.size_alloc, World.size_setCell, World.size_drew, World.heap_drewN] at hle); clear hle)))
        go_quiet (fail)
        go_wp2
        go_ret2
        refine RetR.mk (none : Option (List Int)) (by (repeat (first | (with_reducible exact Up.refl _) | (with_reducible assumption) | (with_reducible refine Up.alloc ?_ _) | (with_reducible refine Up.drew ?_) | ((with_reducible refine Up.set ?_ ?_ _); rotate_left; focus (first | omega | (simp; done) | (simp; omega))) | (with_reducible refine Up.drewN ?_ _) | (with_reducible refine Up.call ?_ (by with_reducible assumption))))) ?_ rfl (rel := numR)
        rw [HN.out, H.out, Hdr.out]
        exact nums_bad Hp.out
      | ok n =>
        have Hp := hid hp
        clear hp
        go_wp2_with (first
                        | ((go_at_call 18; (with_reducible refine (parse_any y HM.out _ HPW.out HER.out).mono ?_); rintro e w2 ⟨x2, hx2, rfl, hb2⟩ <;> (rw [Hp.out] at hx2; subst hx2; dsimp only [paR]; have HO2 := hid (ownsUp HOW.out hb2))) <;> (have hle := Up.le hb2; (try simp only [World.size_alloc, World.size_setCell, World.size_drew, World.heap_drewN] at hle); clear hle))
                        | (at_builtin; refine wpList_append_own_at _ rfl (.tmp 25) (.tmp 27) _ rfl w1.heap.size 3 i0 (.int .i64 0) 1 8 Tryz.underlying71 hi0 hz0 hz1 hz2 rfl (by decide) _ _ _ rfl (HO2.out.alloc _) ⟨w2.heap.size, 0, none⟩ 1 1 [.int .i64 n] rfl rfl (cell_one_new _ _ _) (by simp [Value.oneCell']) (by have := HLk.out; unfold maxLen; omega) (by have := HLk.out; omega) (by have := hU.le; have := hb2.le; simp; omega) ?_; intro v8 w3 own8 g8 _ at8))
        go_roundw
        case rel =>
          refine ⟨k + 1, L ++ [n], HJ.out, by go_num, ?_, ?_, ?_, ?_⟩
          · show _ = _
            have := HLk.out; simp; omega
          · rw [ints_snoc] at own8; simpa using own8
          · exact Below.grown ((hU.call hb2).alloc _) g8 ((hU.call hb2).alloc _).le (fun j hj => (HO2.out.lt j hj).1)
          · show _ = _
            rw [H.out, Hdr.out]
            exact nums_good Hp.out
        case measure => have := HJ.out; simp [intOf]; omega
    · obtain rfl : k = W.length := by omega
      have hkl : ¬ (W.length : Int) < (W.length : Int) := by omega
      have hkd : decide ((W.length : Int) < (W.length : Int)) = false := decide_eq_false hkl
      obtain ⟨A, c, hv, hrd, hc⟩ := own_read hown rfl
      have Hrd := hid hrd; have Hc := hid hc
      have hUw := hb1.call hU
      rw [hv]
      clear hown hv hrd hc
      go_wp2
      go_ret2
      refine RetR.mk (some L : Option (List Int)) hUw ?_ (rel := numR) ⟨A, c, rfl, Hrd.out, Hc.out⟩
      rw [HN.out, H.out, List.drop_length]
      simp [numsF, preN]
end Go.Proofs.YtmjcnpolnknkkaaGreatDoor

set_option linter.unusedVariables false
set_option linter.unusedSimpArgs false
namespace Go.Proofs.YtmjcnpolnknkkaaGreatDoor
open Go.RowKit

def spanF (s : List UInt8) : Option Sp := match rnumsF s with
  | some [a, b] => if a ≤ b then some ⟨a, b⟩ else none
  | _ => none
def rspR : Option Sp → Value
  | none => .tuple #[.agg #[.int .i64 0, .int .i64 0], unV]
  | some p => .tuple #[.agg #[.int .i64 p.lo, .int .i64 p.hi], .nilIface]
theorem span_ways (s : List UInt8) : (rnumsF s = none ∧ spanF s = none) ∨ (∃ l, rnumsF s = some l ∧ l.length ≠ 2 ∧ spanF s = none) ∨ (∃ a b, rnumsF s = some [a, b] ∧ b < a ∧ spanF s = none) ∨ (∃ a b, rnumsF s = some [a, b] ∧ a ≤ b ∧ spanF s = some ⟨a, b⟩) := by
  unfold spanF
  cases h : rnumsF s with
  | none => exact .inl ⟨rfl, rfl⟩
  | some l =>
    match l with
    | [] => exact .inr (.inl ⟨_, rfl, by simp, rfl⟩)
    | [a] => exact .inr (.inl ⟨_, rfl, by simp, rfl⟩)
    | [a, b] =>
      by_cases hab : a ≤ b
      · exact .inr (.inr (.inr ⟨a, b, rfl, hab, by simp [hab]⟩))
      · exact .inr (.inr (.inl ⟨a, b, rfl, by omega, by simp [hab]⟩))
    | a :: b :: c :: r => exact .inr (.inl ⟨_, rfl, by simp, rfl⟩)
theorem two_at {w : World} {A : Option Addr} {a b : Int} (h : RdI w A [a, b]) : ∃ k o, A = some ⟨k, o, none⟩ ∧ k < w.heap.size ∧ w.cell? ⟨k, o, none⟩ = some (.int .i64 a) ∧ w.cell? ⟨k, o + 1, none⟩ = some (.int .i64 b) := by
  obtain ⟨k, o, e, hk, hc⟩ := h.at (by simp)
  exact ⟨k, o, e, hk, hc 0 (by simp), hc 1 (by simp)⟩
set_option maxRecDepth 100000 in
set_option maxHeartbeats 4000000 in
theorem read_any (s : List UInt8) (w : World) (hs : s.length ≤ 4000) (hd : DoorR w) : Calls Tryz.prog 175 #[.string ⟨s.toArray⟩] w (RetX rspR (spanF s) w) := by
  have hlg := World.block_lt_of_cell? w _ hd.unread
  dsimp only at hlg
  have hg1 : 1 ≠ w.heap.size := by omega
  have hg2 : w.heap.size ≠ 1 := by omega
  have HD := hid hd; have Hs := hid hs
  clear hd hs
  rcases span_ways s with ⟨h, e⟩ | ⟨l, h, hl, e⟩ | ⟨a, b, h, hab, e⟩ | ⟨a, b, h, hab, e⟩
  · have H := hid h
    rw [e]
    clear h e
    go_enter Tryz.func175, Tryz.ntmps175
    go_wp2_with (first
                        | ((go_at_call 178; (with_reducible refine (numbers_any s _ Hs.out (HD.out.up (by (repeat (first | (with_reducible exact Up.refl _) | (with_reducible assumption) | (with_reducible refine Up.alloc ?_ _) | (with_reducible refine Up.drew ?_) | ((with_reducible refine Up.set ?_ ?_ _); rotate_left; focus (first | omega | (simp; done) | (simp; omega))) | (with_reducible refine Up.drewN ?_ _) | (with_reducible refine Up.call ?_ (by with_reducible assumption))))))).mono ?_); rintro e w1 ⟨x1, v1, hx1, rfl, hv1, hb1⟩ <;> (rw [H.out] at hx1; subst hx1; obtain rfl := hv1; dsimp only [unV]; have hun := (HD.out.up (show Up w w1 by (repeat (first | (with_reducible exact Up.refl _) | (with_reducible assumption) | (with_reducible refine Up.alloc ?_ _) | (with_reducible refine Up.drew ?_) | ((with_reducible refine Up.set ?_ ?_ _); rotate_left; focus (first | omega | (simp; done) | (simp; omega))) | (with_reducible refine Up.drewN ?_ _) | (with_reducible refine Up.call ?_ (by with_reducible assumption)))))).unread)) <;> (have hle := Up.le hb1; (try simp only [World.size_alloc, World.size_setCell, World.size_drew, World.heap_drewN] at hle); (try (have _ : w.heap.size < w1.heap.size := (by omega); (first | ((apply fk hb1 (w.heap.size); (focus (go_simp; rfl)); (focus (intro o; go_simp)); intro z; (try clear f_0); have f_0 := z; clear z)) | skip); (try (apply fko hb1 (w.heap.size) 0; (focus (go_simp; rfl)); (focus (go_simp; done)); intro z; (try clear g_0_0); have g_0_0 := z; clear z)); (try (apply fko hb1 (w.heap.size) 1; (focus (go_simp; rfl)); (focus (go_simp; done)); intro z; (try clear g_0_1); have g_0_1 := z; clear z)); (try (apply ck hb1 (w.heap.size) 0; (focus (go_simp; rfl)); intro z; (try clear c_0_0); have c_0_0 := z; clear z)); (try (apply ck hb1 (w.heap.size) 1; (focus (go_simp; rfl)); intro z; (try clear c_0_1); have c_0_1 := z; clear z)))); clear hle)))
    go_quiet (fail)
    go_wp2
    go_region
    all_goals go_wp2
    all_goals
      (refine bodyPost_res rfl ?_; simp only [results, Tryz.results175]; go_simp; refine resPost_ok ?_)
      exact RetX.mk (none : Option Sp) (by (repeat (first | (with_reducible exact Up.refl _) | (with_reducible assumption) | (with_reducible refine Up.alloc ?_ _) | (with_reducible refine Up.drew ?_) | ((with_reducible refine Up.set ?_ ?_ _); rotate_left; focus (first | omega | (simp; done) | (simp; omega))) | (with_reducible refine Up.drewN ?_ _) | (with_reducible refine Up.call ?_ (by with_reducible assumption))))) rfl rfl
  · have H := hid h
    rw [e]
    have hl2 : ((l.length : Int) != 2) = true := by simp; omega
    have hl3 : ((l.length : Int) == 2) = false := beq_eq_false_iff_ne.2 (by omega)
    clear h e hl
    go_enter Tryz.func175, Tryz.ntmps175
    go_wp2_with (first
                        | ((go_at_call 178; (with_reducible refine (numbers_any s _ Hs.out (HD.out.up (by (repeat (first | (with_reducible exact Up.refl _) | (with_reducible assumption) | (with_reducible refine Up.alloc ?_ _) | (with_reducible refine Up.drew ?_) | ((with_reducible refine Up.set ?_ ?_ _); rotate_left; focus (first | omega | (simp; done) | (simp; omega))) | (with_reducible refine Up.drewN ?_ _) | (with_reducible refine Up.call ?_ (by with_reducible assumption))))))).mono ?_); rintro e w1 ⟨x1, v1, hx1, rfl, hv1, hb1⟩ <;> (rw [H.out] at hx1; subst hx1; obtain ⟨A, c, rfl, hr, hc⟩ := hv1; clear hr; have hun := (HD.out.up (show Up w w1 by (repeat (first | (with_reducible exact Up.refl _) | (with_reducible assumption) | (with_reducible refine Up.alloc ?_ _) | (with_reducible refine Up.drew ?_) | ((with_reducible refine Up.set ?_ ?_ _); rotate_left; focus (first | omega | (simp; done) | (simp; omega))) | (with_reducible refine Up.drewN ?_ _) | (with_reducible refine Up.call ?_ (by with_reducible assumption)))))).unread)) <;> (have hle := Up.le hb1; (try simp only [World.size_alloc, World.size_setCell, World.size_drew, World.heap_drewN] at hle); (try (have _ : w.heap.size < w1.heap.size := (by omega); (first | ((apply fk hb1 (w.heap.size); (focus (go_simp; rfl)); (focus (intro o; go_simp)); intro z; (try clear f_0); have f_0 := z; clear z)) | skip); (try (apply fko hb1 (w.heap.size) 0; (focus (go_simp; rfl)); (focus (go_simp; done)); intro z; (try clear g_0_0); have g_0_0 := z; clear z)); (try (apply fko hb1 (w.heap.size) 1; (focus (go_simp; rfl)); (focus (go_simp; done)); intro z; (try clear g_0_1); have g_0_1 := z; clear z)); (try (apply ck hb1 (w.heap.size) 0; (focus (go_simp; rfl)); intro z; (try clear c_0_0); have c_0_0 := z; clear z)); (try (apply ck hb1 (w.heap.size) 1; (focus (go_simp; rfl)); intro z; (try clear c_0_1); have c_0_1 := z; clear z)))); clear hle)))
    go_quiet (fail)
    go_wp2
    go_region
    all_goals go_wp2
    all_goals
      (refine bodyPost_res rfl ?_; simp only [results, Tryz.results175]; go_simp; refine resPost_ok ?_)
      exact RetX.mk (none : Option Sp) (by (repeat (first | (with_reducible exact Up.refl _) | (with_reducible assumption) | (with_reducible refine Up.alloc ?_ _) | (with_reducible refine Up.drew ?_) | ((with_reducible refine Up.set ?_ ?_ _); rotate_left; focus (first | omega | (simp; done) | (simp; omega))) | (with_reducible refine Up.drewN ?_ _) | (with_reducible refine Up.call ?_ (by with_reducible assumption))))) rfl rfl
  · have H := hid h
    rw [e]
    have hd1 : decide (b < a) = true := decide_eq_true hab
    clear h e
    go_enter Tryz.func175, Tryz.ntmps175
    go_wp2_with (first
                        | ((go_at_call 178; (with_reducible refine (numbers_any s _ Hs.out (HD.out.up (by (repeat (first | (with_reducible exact Up.refl _) | (with_reducible assumption) | (with_reducible refine Up.alloc ?_ _) | (with_reducible refine Up.drew ?_) | ((with_reducible refine Up.set ?_ ?_ _); rotate_left; focus (first | omega | (simp; done) | (simp; omega))) | (with_reducible refine Up.drewN ?_ _) | (with_reducible refine Up.call ?_ (by with_reducible assumption))))))).mono ?_); rintro e w1 ⟨x1, v1, hx1, rfl, hv1, hb1⟩ <;> (rw [H.out] at hx1; subst hx1; obtain ⟨A, c, rfl, hr, hc⟩ := hv1; obtain ⟨k, o, rfl, lk, k0, k1⟩ := two_at hr; clear hr; have hun := (HD.out.up (show Up w w1 by (repeat (first | (with_reducible exact Up.refl _) | (with_reducible assumption) | (with_reducible refine Up.alloc ?_ _) | (with_reducible refine Up.drew ?_) | ((with_reducible refine Up.set ?_ ?_ _); rotate_left; focus (first | omega | (simp; done) | (simp; omega))) | (with_reducible refine Up.drewN ?_ _) | (with_reducible refine Up.call ?_ (by with_reducible assumption)))))).unread)) <;> (have hle := Up.le hb1; (try simp only [World.size_alloc, World.size_setCell, World.size_drew, World.heap_drewN] at hle); (try (have _ : w.heap.size < w1.heap.size := (by omega); (first | ((apply fk hb1 (w.heap.size); (focus (go_simp; rfl)); (focus (intro o; go_simp)); intro z; (try clear f_0); have f_0 := z; clear z)) | skip); (try (apply fko hb1 (w.heap.size) 0; (focus (go_simp; rfl)); (focus (go_simp; done)); intro z; (try clear g_0_0); have g_0_0 := z; clear z)); (try (apply fko hb1 (w.heap.size) 1; (focus (go_simp; rfl)); (focus (go_simp; done)); intro z; (try clear g_0_1); have g_0_1 := z; clear z)); (try (apply ck hb1 (w.heap.size) 0; (focus (go_simp; rfl)); intro z; (try clear c_0_0); have c_0_0 := z; clear z)); (try (apply ck hb1 (w.heap.size) 1; (focus (go_simp; rfl)); intro z; (try clear c_0_1); have c_0_1 := z; clear z)))); clear hle)))
    go_quiet (fail)
    go_wp2
    go_region
    all_goals go_wp2
    all_goals
      (refine bodyPost_res rfl ?_; simp only [results, Tryz.results175]; go_simp; refine resPost_ok ?_)
      exact RetX.mk (none : Option Sp) (by (repeat (first | (with_reducible exact Up.refl _) | (with_reducible assumption) | (with_reducible refine Up.alloc ?_ _) | (with_reducible refine Up.drew ?_) | ((with_reducible refine Up.set ?_ ?_ _); rotate_left; focus (first | omega | (simp; done) | (simp; omega))) | (with_reducible refine Up.drewN ?_ _) | (with_reducible refine Up.call ?_ (by with_reducible assumption))))) rfl rfl
  · have H := hid h
    rw [e]
    have hd1 : decide (b < a) = false := decide_eq_false (by omega)
    clear h e
    go_enter Tryz.func175, Tryz.ntmps175
    go_wp2_with (first
                        | ((go_at_call 178; (with_reducible refine (numbers_any s _ Hs.out (HD.out.up (by (repeat (first | (with_reducible exact Up.refl _) | (with_reducible assumption) | (with_reducible refine Up.alloc ?_ _) | (with_reducible refine Up.drew ?_) | ((with_reducible refine Up.set ?_ ?_ _); rotate_left; focus (first | omega | (simp; done) | (simp; omega))) | (with_reducible refine Up.drewN ?_ _) | (with_reducible refine Up.call ?_ (by with_reducible assumption))))))).mono ?_); rintro e w1 ⟨x1, v1, hx1, rfl, hv1, hb1⟩ <;> (rw [H.out] at hx1; subst hx1; obtain ⟨A, c, rfl, hr, hc⟩ := hv1; obtain ⟨k, o, rfl, lk, k0, k1⟩ := two_at hr; clear hr; have hun := (HD.out.up (show Up w w1 by (repeat (first | (with_reducible exact Up.refl _) | (with_reducible assumption) | (with_reducible refine Up.alloc ?_ _) | (with_reducible refine Up.drew ?_) | ((with_reducible refine Up.set ?_ ?_ _); rotate_left; focus (first | omega | (simp; done) | (simp; omega))) | (with_reducible refine Up.drewN ?_ _) | (with_reducible refine Up.call ?_ (by with_reducible assumption)))))).unread)) <;> (have hle := Up.le hb1; (try simp only [World.size_alloc, World.size_setCell, World.size_drew, World.heap_drewN] at hle); (try (have _ : w.heap.size < w1.heap.size := (by omega); (first | ((apply fk hb1 (w.heap.size); (focus (go_simp; rfl)); (focus (intro o; go_simp)); intro z; (try clear f_0); have f_0 := z; clear z)) | skip); (try (apply fko hb1 (w.heap.size) 0; (focus (go_simp; rfl)); (focus (go_simp; done)); intro z; (try clear g_0_0); have g_0_0 := z; clear z)); (try (apply fko hb1 (w.heap.size) 1; (focus (go_simp; rfl)); (focus (go_simp; done)); intro z; (try clear g_0_1); have g_0_1 := z; clear z)); (try (apply ck hb1 (w.heap.size) 0; (focus (go_simp; rfl)); intro z; (try clear c_0_0); have c_0_0 := z; clear z)); (try (apply ck hb1 (w.heap.size) 1; (focus (go_simp; rfl)); intro z; (try clear c_0_1); have c_0_1 := z; clear z)))); clear hle)))
    go_quiet (fail)
    go_wp2
    go_region
    all_goals go_wp2
    all_goals
      (refine bodyPost_res rfl ?_; simp only [results, Tryz.results175]; go_simp; refine resPost_ok ?_)
      exact RetX.mk (some ⟨a, b⟩ : Option Sp) (by (repeat (first | (with_reducible exact Up.refl _) | (with_reducible assumption) | (with_reducible refine Up.alloc ?_ _) | (with_reducible refine Up.drew ?_) | ((with_reducible refine Up.set ?_ ?_ _); rotate_left; focus (first | omega | (simp; done) | (simp; omega))) | (with_reducible refine Up.drewN ?_ _) | (with_reducible refine Up.call ?_ (by with_reducible assumption))))) rfl rfl
end Go.Proofs.YtmjcnpolnknkkaaGreatDoor
