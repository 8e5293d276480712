/- Contracts given to the printed texts: varint.high, varint.low, strconv.Itoa, varint.Number; what the package-level variables hold. -/
import Derived.Test.YtlhinklnnjbmpaaDoorHigh
import Derived.Test.YtlhinklnnjbmpaaDoorShelf
import Derived.Test.YtlhinklnnjbmpaaDoorWWords
import Derived.WalkSmall
import Derived.Lib.Walk
namespace Go.Proofs.YtlhinklnnjbmpaaDoor.Vw
open Go.RowKit Go.Proofs.YtlhinklnnjbmpaaDoor.Vm Go.Proofs.YtlhinklnnjbmpaaDoorW.PrintWords
set_option linter.unusedVariables false
set_option linter.unusedSimpArgs false
/-- What the package-level variables hold that the library reads. -/
structure EnvOK (w : World) : Prop where
  tab : Lib.TabIs Tryd.prog w "internal/strconv.uint64pow10" .u64 Lib.pow10Tab
  syn : ∃ tp p, w.var? Tryd.prog "strconv.ErrSyntax" = some #[.iface tp p]
  rng : ∃ tp p, w.var? Tryd.prog "strconv.ErrRange" = some #[.iface tp p]
theorem var_lt {w : World} {n : String} {cs : Array Value} (h : w.var? Tryd.prog n = some cs) : ∃ g, Tryd.prog.globalNamed n = some g ∧ g < w.heap.size := by
  unfold World.var? at h
  obtain ⟨g, hg, hc⟩ := Option.bind_eq_some_iff.1 h
  refine ⟨g, hg, ?_⟩
  cases hh : w.heap[g]? with
  | none => simp [hh] at hc
  | some o => exact (Array.getElem?_eq_some_iff.1 hh).1
theorem var_stays {w W : World} (hb : Below w.heap.size w W) {n : String} {cs : Array Value} (h : w.var? Tryd.prog n = some cs) : W.var? Tryd.prog n = some cs := by
  obtain ⟨g, hg, hl⟩ := var_lt h
  exact var?_below hb hg hl h
theorem EnvOK.stays {w W : World} (h : Aside0 (EnvOK w)) (hb : Below w.heap.size w W) : Aside0 (EnvOK W) := by
  obtain ⟨⟨h1, ⟨t2, p2, h2⟩, ⟨t3, p3, h3⟩⟩⟩ := h
  exact ⟨⟨var_stays hb h1, ⟨t2, p2, var_stays hb h2⟩, ⟨t3, p3, var_stays hb h3⟩⟩⟩
theorem EnvOK.drewn {w : World} (h : Aside0 (EnvOK w)) (n : Nat) : Aside0 (EnvOK (w.drewN n)) := EnvOK.stays h (pw_below_drewN (Below.refl _ _) n)
theorem EnvOK.drewns {w W : World} (h : Aside0 (EnvOK w)) (hd : Drawn0 w W) : Aside0 (EnvOK W) := EnvOK.stays h hd.below

def varint_high.f (a0 a1 : Int) : Option ByteArray := if a1 = 1 ∨ a1 = 2 ∨ a1 = 4 ∨ a1 = 8 then some ⟨(be a0 a1.toNat).toArray⟩ else none
def varint_low.f (a0 a1 : Int) : Option ByteArray := if a1 = 1 ∨ a1 = 2 ∨ a1 = 4 ∨ a1 = 8 then some ⟨(le a0 a1.toNat).toArray⟩ else none
theorem emod2 (x : Int) : UInt8.ofNat (x % 256).toNat = by8 x := rfl
theorem dd (n a b : Int) (ha : 0 ≤ a) : n / a / b = n / (a * b) := Int.ediv_ediv_of_nonneg ha
theorem varint_high.calls (a0 a1 : Int) (r : ByteArray) (w : World) (h : varint_high.f a0 a1 = some r) :
    Calls Tryd.prog 39 #[.int .i64 a0, .int .i64 a1] w fun e w' => e = .returned (.string r) ∧ Below w.heap.size w w' := by
  unfold varint_high.f at h
  split at h
  · rename_i hc
    simp only [Option.some.injEq] at h
    subst h
    rcases hc with rfl | rfl | rfl | rfl
    · exact high1 a0 w
    · exact high2 a0 w
    · refine (high4 a0 w).mono fun e w' ⟨he, hw⟩ => ⟨he.trans ?_, hw⟩
      simp only [strOfNums, be, List.map_cons, List.map_nil, emod2, List.nil_append, List.cons_append, show (4 : Int).toNat = 4 from rfl, dd _ 256 256 (by decide), dd _ 65536 256 (by decide), Int.reduceMul]
    · refine (high8 a0 w).mono fun e w' ⟨he, hw⟩ => ⟨he.trans ?_, hw⟩
      simp only [strOfNums, be, List.map_cons, List.map_nil, emod2, List.nil_append, List.cons_append, dd _ 256 256 (by decide), dd _ 65536 256 (by decide), dd _ 16777216 256 (by decide), dd _ 4294967296 256 (by decide), dd _ 1099511627776 256 (by decide), dd _ 281474976710656 256 (by decide), Int.reduceMul, Int.reduceToNat]
  · cases h
theorem varint_low.calls (a0 a1 : Int) (r : ByteArray) (w : World) (h : varint_low.f a0 a1 = some r) :
    Calls Tryd.prog 41 #[.int .i64 a0, .int .i64 a1] w fun e w' => e = .returned (.string r) ∧ Below w.heap.size w w' := by
  unfold varint_low.f at h
  split at h
  · rename_i hc
    simp only [Option.some.injEq] at h
    subst h
    rcases hc with rfl | rfl | rfl | rfl
    · exact low1 a0 w
    · exact low2 a0 w
    · refine (low4 a0 w).mono fun e w' ⟨he, hw⟩ => ⟨he.trans ?_, hw⟩
      simp only [strOfNums, le, List.map_cons, List.map_nil, emod2, dd _ 256 256 (by decide), dd _ 65536 256 (by decide), Int.reduceMul, Int.reduceToNat]
    · refine (low8 a0 w).mono fun e w' ⟨he, hw⟩ => ⟨he.trans ?_, hw⟩
      simp only [strOfNums, le, List.map_cons, List.map_nil, emod2, dd _ 256 256 (by decide), dd _ 65536 256 (by decide), dd _ 16777216 256 (by decide), dd _ 4294967296 256 (by decide), dd _ 1099511627776 256 (by decide), dd _ 281474976710656 256 (by decide), Int.reduceMul, Int.reduceToNat]
  · cases h

def strconv_Itoa.f (a0 : Int) : Option ByteArray := if -9223372036854775808 ≤ a0 ∧ a0 ≤ 9223372036854775807 then some ⟨(Lib.itoa a0).toArray⟩ else none
theorem grow_below (w : World) (n : Nat) (os : Array Obj) : Below w.heap.size w (Sort.grow (w.drewN n) os) := by
  refine ⟨rfl, rfl, rfl, ?_, fun i hi => ?_⟩
  · simp [Sort.grow]
  · simp only [Sort.grow]
    rw [Array.getElem?_append_left (by exact hi)]
    rfl
theorem strconv_Itoa.calls (a0 : Int) (r : ByteArray) (w : World) (h : strconv_Itoa.f a0 = some r) (hE_ : Aside0 (EnvOK w)) :
    Calls Tryd.prog 43 #[.int .i64 a0] w fun e w' => e = .returned (.string r) ∧ Below w.heap.size w w' := by
  unfold strconv_Itoa.f at h
  split at h
  · rename_i hc
    simp only [Option.some.injEq] at h
    subst h
    refine (Any.strconv_Itoa Tryd.laysM171 a0 hc.1 hc.2 w hE_.out.tab).mono fun e w' ⟨he, k, os, hw⟩ => ⟨he, ?_⟩
    subst hw
    exact grow_below w k os
  · cases h
def numberS (l : Bs) : Int × Bool := match Lib.atoiAll l with
  | .ok n => if Lib.itoa n = l then (n, true) else (0, false)
  | _ => (0, false)
def varint_Number.f (a0 : ByteArray) : Option (Int × Bool) := if a0.size ≤ 281474976710656 then some (numberS a0.data.toList) else none

set_option maxHeartbeats 1000000 in
theorem number_bad (s : ByteArray) (v : Int) (te : TypeId) (w : World)
    (hA : ∀ W, Aside0 (EnvOK W) → Calls Tryd.prog 48 #[.string s] W fun e w' => (∃ N, e = .returned (.tuple #[.int .i64 v, .iface te (.pointer (some ⟨N, 0, none⟩))])) ∧ Below W.heap.size W w') (hE_ : Aside0 (EnvOK w)) :
    Calls Tryd.prog 26 #[.string s] w fun e w' => e = .returned (.tuple #[.int .i64 0, .bool false]) ∧ Below w.heap.size w w' := by
  have HA := Aside0.mk (hA w hE_)
  clear hA
  go_enter Tryd.func26, Tryd.ntmps26
  go_wp2_with fail
  refine HA.out.mono ?_
  rintro e w1 ⟨⟨N, rfl⟩, hb⟩
  have Hb := Aside0.mk hb
  clear hb
  go_wp2
  go_ret2
  exact ⟨rfl, Hb.out⟩
set_option maxHeartbeats 1000000 in
theorem number_ok (s t : ByteArray) (n : Int) (b : Bool) (w : World) (ht : strconv_Itoa.f n = some t) (hb : (t.data.toList == s.data.toList) = b)
    (hA : ∀ W, Aside0 (EnvOK W) → Calls Tryd.prog 48 #[.string s] W fun e w' => e = .returned (.tuple #[.int .i64 n, .nilIface]) ∧ Below W.heap.size W w') (hE_ : Aside0 (EnvOK w)) :
    Calls Tryd.prog 26 #[.string s] w fun e w' => e = .returned (.tuple #[.int .i64 (if b then n else 0), .bool b]) ∧ Below w.heap.size w w' := by
  have HA := Aside0.mk (hA w hE_)
  have HT := Aside0.mk ht
  have HB := Aside0.mk hb
  clear hA ht hb
  go_enter Tryd.func26, Tryd.ntmps26
  go_wp2_with fail
  refine HA.out.mono ?_
  rintro e w1 ⟨rfl, hb⟩
  have Hb := Aside0.mk hb
  clear hb
  go_wp2_with fail
  refine (strconv_Itoa.calls n t _ HT.out (EnvOK.stays hE_ Hb.out)).mono ?_
  rintro e w2 ⟨rfl, hb⟩
  have Hb2 := Aside0.mk (below_step Hb.out hb)
  clear hb
  have hb := HB.out
  have hb1 : (t.toList == s.toList) = b := by rw [ByteArray.toList_eq, ByteArray.toList_eq]; exact hb
  have hb2 : (t.toList != s.toList) = !b := by rw [bne, hb1]
  cases b
  · go_wp2
    go_ret2
    exact ⟨rfl, Hb2.out⟩
  · go_wp2
    go_ret2
    exact ⟨rfl, Hb2.out⟩
theorem bw_below (W : World) (t : ByteArray) : Below W.heap.size W (Lib.bytesWorld W 5 t) := Lib.bytesWorld_below _ _ _
theorem varint_Number.calls (a0 : ByteArray) (r1 : Int) (r2 : Bool) (w : World) (h : varint_Number.f a0 = some (r1, r2)) (hE_ : Aside0 (EnvOK w)) :
    Calls Tryd.prog 26 #[.string a0] w fun e w' => e = .returned (.tuple #[.int .i64 r1, .bool r2]) ∧ Below w.heap.size w w' := by
  unfold varint_Number.f at h
  split at h
  · rename_i hl
    simp only [Option.some.injEq] at h
    unfold numberS at h
    rcases ha : Lib.atoiAll a0.data.toList with n | _ | _
    · rw [ha] at h
      replace h : (if Lib.itoa n = a0.data.toList then (n, true) else (0, false)) = (r1, r2) := h
      obtain ⟨n0, n1⟩ := Lib.atoiAll_bounds ha
      have key := number_ok a0 ⟨(Lib.itoa n).toArray⟩ n (decide (Lib.itoa n = a0.data.toList)) w (by unfold strconv_Itoa.f; rw [if_pos (by omega)]) (by rw [Bool.eq_iff_iff]; simp) (fun W _ => (Any.strconv_Atoi_ok Tryd.laysC172 a0 (by omega) n ha W).mono fun e w' ⟨he, hw⟩ => ⟨he, by
        rcases hw with rfl | ⟨t, rfl⟩
        · exact Below.refl _ _
        · exact bw_below W t⟩) hE_
      refine key.mono fun e w' ⟨he, hw⟩ => ⟨he.trans ?_, hw⟩
      by_cases hc : Lib.itoa n = a0.data.toList
      · rw [if_pos hc] at h
        simp only [Prod.mk.injEq] at h
        obtain ⟨rfl, rfl⟩ := h
        simp [hc]
      · rw [if_neg hc] at h
        simp only [Prod.mk.injEq] at h
        obtain ⟨rfl, rfl⟩ := h
        simp [hc]
    · rw [ha] at h
      simp only [Prod.mk.injEq] at h
      obtain ⟨rfl, rfl⟩ := h
      refine number_bad a0 0 98 w (fun W hW => ?_) hE_
      obtain ⟨tp, p, hv⟩ := hW.out.syn
      exact (Any.strconv_Atoi_syntax_var Tryd.laysC172 a0 hl ha tp p W hv).mono fun e w' ⟨N, he, _, _, hb⟩ => ⟨⟨N, he⟩, hb⟩
    · rw [ha] at h
      simp only [Prod.mk.injEq] at h
      obtain ⟨rfl, rfl⟩ := h
      refine number_bad a0 (Lib.atoiSat a0.data.toList) 98 w (fun W hW => ?_) hE_
      obtain ⟨tp, p, hv⟩ := hW.out.rng
      exact (Any.strconv_Atoi_range_var Tryd.laysC172 a0 hl ha tp p W hv).mono fun e w' ⟨N, he, _, _, hb⟩ => ⟨⟨N, he⟩, hb⟩
  · cases h
end Go.Proofs.YtlhinklnnjbmpaaDoor.Vw
