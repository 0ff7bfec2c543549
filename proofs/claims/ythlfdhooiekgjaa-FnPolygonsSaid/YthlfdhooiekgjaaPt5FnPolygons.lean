/-
  Parts of the proof, one behind the other: contracts of functions and plain laws. No condition.
-/
import Derived.WalkKit
import Derived.Deep.LoopGhost
import Derived.Deep.Draws
import Derived.Lib.Walk
import Derived.Lib.Small
import Derived.Lib.Slices
import Derived.Shelf.RegionOpenPlain
import Derived.Test.YthlfdhooiekgjaaProg
import Derived.Sort.Lot0
import Derived.Sort.LotA
import Derived.Sort.LotD2
import Derived.Shelf.SlSortCmp.Insertion1
import Derived.Test.YthlfdhooiekgjaaPt4FnPolygons
/-
  slices.SortFunc at own slices of rows, by any function that compares rows. No condition.
-/
namespace Go.Proofs.Ythlfdhooiekgjaa
open Go Go.RowKit Go.Sort

/-- What the sort asks of a function that compares rows. -/
def CmpOk (G : FuncId) (cmp : List Int → List Int → Int) (R : List Int → Prop) : Prop :=
  HasBody Try.prog G ∧ (∀ (w : World) (v1 v2 : Value) (xs ys : List Int), IntsAt w (fun _ => True) v1 xs → IntsAt w (fun _ => True) v2 ys → R xs → R ys →
    Calls Try.prog G #[v1, v2] w fun e w' => e = .returned (.int .i64 (cmp xs ys)) ∧ ∃ q os', w' = grow (w.drewN q) os') ∧
  (∀ x, R x → ¬ cmp x x < 0) ∧ (∀ x y z, R x → R y → R z → cmp x y < 0 → cmp y z < 0 → cmp x z < 0) ∧ ∀ x y z, R x → R y → R z → ¬ cmp x y < 0 → ¬ cmp y z < 0 → ¬ cmp x z < 0

section
variable (enc : Nat → Value) (w : World) (blk m : Nat) (dk : Array Nat) (oss : Array Obj)
theorem sw_size : (sortWorld enc w blk 0 m dk oss).heap.size = w.heap.size + oss.size := by
  simp [sortWorld, grow, putRow, mapBlock, Go.Sort.ahead]
theorem sw_other {b : Nat} (hb : b ≠ blk) (hl : b < w.heap.size) : (sortWorld enc w blk 0 m dk oss).heap[b]? = w.heap[b]? := by
  simp only [sortWorld, grow, putRow, mapBlock, Go.Sort.ahead]
  rw [Array.getElem?_append_left (by simpa using hl), Array.getElem?_modify, if_neg (fun e => hb e.symm)]
theorem sw_row {cur : Array Value} {e : TypeId} {fr : Nat × Nat} (h : w.heap[blk]? = some (.cells cur e fr)) : (sortWorld enc w blk 0 m dk oss).heap[blk]? = some (.cells (putCells enc 0 dk cur) e fr) := by
  have hl := (Array.getElem?_eq_some_iff.1 h).1
  simp only [sortWorld, grow, putRow, mapBlock, Go.Sort.ahead]
  rw [Array.getElem?_append_left (by simpa using hl), Array.getElem?_modify, if_pos rfl, h]
  rfl
end

theorem take_put (enc : Nat → Value) (d : Array Nat) (cur : Array Value) (h : d.size ≤ cur.size) : (putCells enc 0 d cur).toList.take d.size = d.toList.map enc := by
  apply List.ext_getElem?
  intro i
  rw [List.getElem?_take]
  by_cases hi : i < d.size
  · rw [if_pos hi, Array.getElem?_toList, putCells, Array.getElem?_mapIdx, Array.getElem?_eq_getElem (by omega), List.getElem?_map, Array.getElem?_toList, Array.getElem?_eq_getElem hi]
    simp only [Option.map_some, Nat.zero_le, true_and, Nat.zero_add, Nat.sub_zero, hi, if_true]
    rw [getElem!_pos d i hi]
  · rw [if_neg hi, List.getElem?_eq_none (by simp; omega)]

section
variable {env : Env} {os : List AO} {d : Option Tmp} {ty : TypeId} {pos : String} {af : Array Edge} {g : Option (Nat × Bool)}

set_option maxHeartbeats 2000000 in
theorem c_sortg {G : FuncId} {cmp : List Int → List Int → Int} {R : List Int → Prop} (hcmpok : CmpOk G cmp R) {x y : Operand} {ats : Array TypeId} {h : Nat} {e e2 : TypeId} {xss : List (List Int)} (hx : AV.ev env x = .own h) (hs : os[h]? = some (.sls e e2 xss)) (hy : AV.ev env y = .val (.func (.func G) #[] #[])) (hp : ∀ xs ∈ xss, R xs) (hn : 0 < xss.length ∧ xss.length ≤ 1048576) :
    COp Try.prog ⟨d, .call { callee := .value (.func 66), args := #[x, y], argTypes := ats }, ty, pos, af, g⟩ env os
      (fun r e' o => ∃ idx : List Nat, idx.Perm (List.range xss.length) ∧ (∀ i j : Nat, i < j → j < idx.length → ¬ cmp (xss.getD (idx.getD j 0) []) (xss.getD (idx.getD i 0) []) < 0) ∧ r = .any ∧ e' = env.mp (AV.noRow h) ∧ o = ((((os ++ [AO.sli e2 []]).map (AO.via (AV.noRow h) h)).set h (.sls e e2 (idx.map fun i => xss.getD i []))).set os.length .dead)) := by
  intro base w gs tm hr
  have hxv := hr.ev x
  rw [hx] at hxv
  have hyv := hr.evv hy
  generalize hv : Act.eval ⟨tm, []⟩ x = v at hxv
  cases hxv with
  | @own _ gh hg =>
  obtain ⟨us, bs, mb, b1, b2, b3, b4, b5, b6, b7, b8⟩ := hr.ho _ _ _ hg hs
  rcases b1.2 with ⟨_, c2⟩ | ⟨blk, cap, cur, c1, c2, c3, c4, c5, c6, c7⟩
  · omega
  have hmb : gh.v.ownBlock = some blk := by rw [c1]; rfl
  have hblk : blk ∈ mb := by
    rcases b6 with ⟨q1, _⟩ | ⟨q1, q2⟩
    · rw [hmb] at q1; cases q1
    · rw [hmb] at q1; cases q1; simp [q2]
  have hmb1 : ∀ b ∈ mb, b = blk := by
    rcases b6 with ⟨q1, _⟩ | ⟨q1, q2⟩
    · rw [hmb] at q1; cases q1
    · rw [hmb] at q1; cases q1; intro b hb; rw [q2] at hb; simpa using hb
  have a8' : (mb ++ bs.flatten).Nodup := by rw [← b7]; exact b8
  have hlt : blk < w.heap.size := (Array.getElem?_eq_some_iff.1 c3).1
  have hbl0 : ∀ b, b ∈ gh.bl → b < w.heap.size := fun b hb => (hr.hn _ _ _ hg hs (by simp) b hb).2
  have rowblk : ∀ (j : Nat) u, us[j]? = some u → ∀ c, u.ownBlock = some c → c ∈ bs.flatten := by
    intro j u hj c hc
    have hjb : j < bs.length := by
      have := (List.getElem?_eq_some_iff.1 hj).1
      omega
    exact List.mem_flatten.2 ⟨bs.getD j [], by rw [List.getD_eq_getElem?_getD, List.getElem?_eq_getElem hjb]; simp, by rw [← (b5 j u hj).2.2, hc]; simp⟩
  have flne : ∀ c, c ∈ bs.flatten → c ≠ blk ∧ c < w.heap.size := fun c hc => ⟨fun e => (List.nodup_append.1 a8').2.2 blk hblk c hc e.symm, hbl0 c (by rw [b7]; exact List.mem_append.2 (.inr hc))⟩
  -- the rows by their numbers
  let n := xss.length
  let ix : Nat → Nat := fun i => if i < n then i else 0
  have hix : ∀ i, ix i < n := fun i => by show (if i < n then i else 0) < n; split <;> omega
  let enc : Nat → Value := fun i => us.getD (ix i) undef
  let row : Nat → List Int := fun i => xss.getD (ix i) []
  let cf : Nat → Nat → Int := fun i j => cmp (row i) (row j)
  have hus : ∀ i, us[ix i]? = some (enc i) := fun i => by
    have : ix i < us.length := by rw [b2]; exact hix i
    show us[ix i]? = some (us.getD (ix i) undef)
    rw [List.getD_eq_getElem?_getD, List.getElem?_eq_getElem this]; rfl
  have hrow : ∀ i, R (row i) := fun i => by
    have : ix i < xss.length := hix i
    refine hp _ ?_
    show xss.getD (ix i) [] ∈ xss
    rw [List.getD_eq_getElem?_getD, List.getElem?_eq_getElem this]
    exact List.getElem_mem this
  have henc : ∀ i, ∃ c cp, enc i = .slice c (row i).length cp := fun i => by
    obtain ⟨q1, q2, q3⟩ := b5 _ _ (hus i)
    obtain ⟨ua, uc, eu⟩ := ownsRow_slice q1
    exact ⟨ua, uc, eu⟩
  have h1 : OneCell enc := fun i => by obtain ⟨c, cp, q⟩ := henc i; rw [q]; rfl
  have hlt' : ∀ i j, ltOf cf i j = true ↔ cmp (row i) (row j) < 0 := fun i j => by
    unfold ltOf
    rw [decide_eq_true_iff]
  have hlf : ∀ i j, ltOf cf i j = false ↔ ¬ cmp (row i) (row j) < 0 := fun i j => by
    rw [← hlt', Bool.not_eq_true]
  have hO : SWO (ltOf cf) := by
    refine ⟨fun i => ?_, fun i j k p q => ?_, fun i j k p q => ?_⟩
    · rw [hlf]; exact hcmpok.2.2.1 _ (hrow i)
    · rw [hlt'] at *; exact hcmpok.2.2.2.1 _ _ _ (hrow i) (hrow j) (hrow k) p q
    · rw [hlf] at *; exact hcmpok.2.2.2.2 _ _ _ (hrow i) (hrow j) (hrow k) p q
  have hbd : HasBody Try.prog 66 := ⟨_, _, Try.func66, by kernel_rfl, rfl⟩
  have hbc := hcmpok.1
  have hsz : (Array.range n).size = us.length := by simp [n, b2]
  have hcmp : CmpLays1 Try.prog G #[] enc cf blk 0 (Array.range n).size w := by
    intro m oss dk hdk i j
    have hat : ∀ i, IntsAt (sortWorld enc w blk 0 m dk oss) (fun _ => True) (enc i) (row i) := fun i => by
      obtain ⟨q1, q2, q3⟩ := b5 _ _ (hus i)
      refine ⟨RowAt.of_owns (base := base) (e := e2) (ownsRow_of_block q1 fun c hc => ?_), q2⟩
      have := flne c (rowblk _ _ (hus i) c hc)
      exact sw_other enc w blk m dk oss this.1 this.2
    exact hcmpok.2.1 _ _ _ _ _ (hat i) (hat j) (hrow i) (hrow j)
  have hH : Holds enc w blk 0 (Array.range n) := by
    intro j hj
    have hj' : j < n := by simpa using hj
    obtain ⟨b', cp, r1, r2, r3, r4⟩ := own_slice b1 (i := j) (by rw [b2]; exact hj')
    have : b' = blk := by rw [hmb] at r2; exact (Option.some.inj r2).symm
    subst this
    rw [Nat.zero_add]
    refine ⟨?_, r4⟩
    have e1 : (Array.range n)[j]! = j := by rw [getElem!_pos _ j (by simpa using hj')]; simp
    have e2 : ix j = j := if_pos hj'
    rw [r3, e1, ← hus j, e2]
  refine ⟨_, _, run_call hbd [x, y] ats _ rfl w, ?_⟩
  have hcall := slices_SortFunc enc h1 cf hO G #[] blk 0 cap (Array.range n) w (fun args w => hbc.run args w) hcmp hH hlt (by simp [n]; omega)
  have eargs : ([x, y].map (Act.eval ⟨tm, []⟩)).toArray = #[.slice (some ⟨blk, 0, none⟩) (Array.range n).size cap, .func (.func G) #[] #[]] := by
    simp only [List.map_cons, List.map_nil, hv, hyv, c1, hsz]
  rw [eargs]
  refine hcall.mono ?_
  rintro e' w' ⟨rfl, d', m, oss, ⟨p1, p2, p3⟩, hsort, rfl⟩
  have hdl : d'.size = n := by simpa using p1
  have hperm : d'.toList.Perm (List.range n) := by
    have e1 : (d'.extract 0 (Array.range n).size).toList = d'.toList := by simp; rw [List.take_of_length_le (by simp [hdl])]
    have e2 : ((Array.range n).extract 0 (Array.range n).size).toList = List.range n := by simp
    rw [e1, e2] at p3
    exact p3
  let idx := d'.toList
  have hil : idx.length = n := by simpa [idx] using hdl
  have hin : ∀ i ∈ idx, i < n := fun i hi => List.mem_range.1 (hperm.mem_iff.1 hi)
  have hind : idx.Nodup := hperm.nodup_iff.2 List.nodup_range
  let cs : List (List Nat) := idx.map fun i => bs.getD i []
  let us' : List Value := idx.map enc
  have hus' : ∀ i ∈ idx, us[i]? = some (enc i) := fun i hi => by
    have := hus i
    have e2 : ix i = i := if_pos (hin i hi)
    rwa [e2] at this
  let g' : Gh := ⟨gh.v, gh.b, mb ++ cs.flatten, us'⟩
  have hcs : ∀ b, b ∈ cs.flatten → b ∈ bs.flatten := by
    intro b hb
    obtain ⟨l, hl, hbl⟩ := List.mem_flatten.1 hb
    obtain ⟨i, hi, rfl⟩ := List.mem_map.1 hl
    have hi2 : i < bs.length := by rw [b3]; exact hin i hi
    rw [List.getD_eq_getElem?_getD, List.getElem?_eq_getElem hi2] at hbl
    exact List.mem_flatten.2 ⟨_, List.getElem_mem hi2, hbl⟩
  -- a dummy object, to be taken in
  let gd : Gh := ⟨.slice none 0 0, 0, [], []⟩
  have hr1 : Rel base w (gs ++ [gd]) env (os ++ [.sli e2 []]) tm := hr.new (Below.refl _ _) (.sli e2 []) gd (fun _ b hb => by simp [gd] at hb) ⟨World.ownsRow_nil w base e2 1, fun x hx => by simp at hx, .inl ⟨rfl, rfl⟩⟩
  have hgl : h < gs.length := (List.getElem?_eq_some_iff.1 hg).1
  have hol : h < os.length := (List.getElem?_eq_some_iff.1 hs).1
  have hg1 : (gs ++ [gd])[h]? = some gh := by rw [List.getElem?_append_left hgl]; exact hg
  have hs1 : (os ++ [AO.sli e2 []])[h]? = some (.sls e e2 xss) := by rw [List.getElem?_append_left hol]; exact hs
  have hgd : (gs ++ [gd])[os.length]? = some gd := by rw [← hr.hl]; simp
  have hod : (os ++ [AO.sli e2 []])[os.length]? = some (.sli e2 []) := by simp
  have sv : SameV h (gs ++ [gd]) ((gs ++ [gd]).set h g') := by
    refine ⟨fun j z hj hz => ?_, fun z hz => ⟨g', ?_, ?_, ?_⟩⟩
    · rw [List.getElem?_set, if_neg (fun e => hj e.symm)]; exact hz
    · rw [List.getElem?_set, if_pos rfl, if_pos (by simp; omega)]
    · rw [hg1] at hz; cases hz; rfl
    · rw [hg1] at hz; cases hz; rfl
  have hkeep : ∀ b, b < w.heap.size → b ≠ blk → (sortWorld enc w blk 0 m d' oss).heap[b]? = w.heap[b]? := fun b hb hne => sw_other enc w blk m d' oss hne hb
  have hblkbl : blk ∈ gh.bl := by rw [b7]; exact List.mem_append.2 (.inl hblk)
  refine ⟨.tuple #[], .any, _, _, (gs ++ [gd]).set h g', rfl, ⟨idx, hperm, ?_, rfl, rfl, rfl⟩, hr1.absorb hg1 hs1 trivial hgd hod trivial (by omega) g' _ (AV.noRow h) rfl (fun b hb hn => hkeep b hb fun e => hn (by rw [e]; exact hblkbl)) (by rw [sw_size]; omega) ?_ (fun kp hv => hv.noRow kp sv) ?_, .any _, ?_⟩
  · intro i j hij hj
    have hj2 : j < d'.size := by rw [hdl, ← hil]; exact hj
    have hs2 := hsort i j (Nat.zero_le _) hij (by simpa using (by omega : j < n))
    rw [hlf, getElem!_pos d' j hj2, getElem!_pos d' i (by omega)] at hs2
    have q : ∀ a (ha : a < d'.size), row d'[a] = xss.getD (idx.getD a 0) [] := fun a ha => by
      have e3 : idx.getD a 0 = d'[a] := by
        show d'.toList.getD a 0 = _
        rw [List.getD_eq_getElem?_getD, Array.getElem?_toList, Array.getElem?_eq_getElem ha]; rfl
      have e4 : d'[a] < n := hin _ (by show d'[a] ∈ d'.toList; simp)
      rw [e3]
      show xss.getD (ix d'[a]) [] = _
      rw [show ix d'[a] = d'[a] from if_pos e4]
    rw [q j hj2, q i (by omega)] at hs2
    exact hs2
  · intro b hb
    have hbb : b ∈ gh.bl := by
      rw [b7]
      rcases List.mem_append.1 hb with hb | hb
      · exact List.mem_append.2 (.inl hb)
      · exact List.mem_append.2 (.inr (hcs b hb))
    refine ⟨.inl hbb, ?_⟩
    rw [sw_size]
    have := hbl0 b hbb
    omega
  · intro kp
    refine ⟨us', cs, mb, ?_, by simp [us'], by simp [cs], rfl, fun j u hj => ?_, b6, rfl, ?_⟩
    · refine ⟨by simp, .inr ⟨blk, cap, _, ?_, c2, sw_row enc w blk m d' oss c3, ?_, c5, ?_, ?_⟩⟩
      · show gh.v = _
        rw [c1]
        have : us'.length = us.length := by simp [us', hil, b2, n]
        rw [this]
      · have : us'.length = us.length := by simp [us', hil, b2, n]
        omega
      · simpa [putCells] using c6
      · have : us'.length * 1 = d'.size := by simp [us', hil, hdl]
        rw [this]
        exact take_put enc d' cur (by rw [c6, hdl]; omega)
    · obtain ⟨i, hi, rfl⟩ : ∃ i, idx[j]? = some i ∧ enc i = u := by
        rw [List.getElem?_map] at hj
        cases hjx : idx[j]? with
        | none => rw [hjx] at hj; cases hj
        | some i => rw [hjx] at hj; exact ⟨i, rfl, Option.some.inj hj⟩
      have him := List.mem_of_getElem? hi
      have g1 : (idx.map fun i => xss.getD i []).getD j [] = xss.getD i [] := by
        rw [List.getD_eq_getElem?_getD, List.getElem?_map, hi]; rfl
      have g2 : cs.getD j [] = bs.getD i [] := by
        show (idx.map fun i => bs.getD i []).getD j [] = _
        rw [List.getD_eq_getElem?_getD, List.getElem?_map, hi]; rfl
      obtain ⟨q1, q2, q3⟩ := b5 i _ (hus' i him)
      rw [g1, g2]
      refine ⟨ownsRow_of_block q1 fun c hc => ?_, q2, q3⟩
      have hcf := rowblk i _ (hus' i him) c hc
      exact hkeep c (flne c hcf).2 (flne c hcf).1
    · show (mb ++ cs.flatten).Nodup
      rw [List.nodup_append] at a8' ⊢
      refine ⟨a8'.1, nodup_sel a8'.2.1 hind (fun i hi => by rw [b3]; exact hin i hi), fun a ha b hb e => a8'.2.2 a ha b (hcs b hb) e⟩
  · refine ⟨rfl, rfl, rfl, by rw [sw_size]; omega, fun b hb => hkeep b (by have := hr.hb; omega) fun e => ?_⟩
    omega
end

section
variable {env : Env} {os : List AO} {d : Tmp} {ty : TypeId} {pos : String} {af : Array Edge} {l rest : List Oper} {K : APost}
theorem w_sortg {G : FuncId} {cmp : List Int → List Int → Int} {R : List Int → Prop} (hcmpok : CmpOk G cmp R) {x y : Operand} {ats : Array TypeId} {h : Nat} {e e2 : TypeId} {xss : List (List Int)} (hp : ∀ xs ∈ xss, R xs) (hn : 0 < xss.length ∧ xss.length ≤ 1048576) (hx : evo env x = some (.own h)) (hs : os[h]? = some (.sls e e2 xss)) (hy : evo env y = some (.val (.func (.func G) #[] #[])))
    (h' : ∀ idx : List Nat, idx.Perm (List.range xss.length) → (∀ i j : Nat, i < j → j < idx.length → ¬ cmp (xss.getD (idx.getD j 0) []) (xss.getD (idx.getD i 0) []) < 0) → AOps Try.prog .seq l rest K (Env.up (env.mp (AV.noRow h)) d .any) ((((os ++ [AO.sli e2 []]).map (AO.via (AV.noRow h) h)).set h (.sls e e2 (idx.map fun i => xss.getD i []))).set os.length .dead)) :
    AOps Try.prog .seq l (⟨some d, .call { callee := .value (.func 66), args := #[x, y], argTypes := ats }, ty, pos, af, none⟩ :: rest) K env os :=
  AOps.ca (c_sortg hcmpok (ev_of hx) hs (ev_of hy) hp hn) fun r e o ⟨idx, h1, h2, h3, h4, h5⟩ => by subst h3; subst h4; subst h5; exact h' idx h1 h2
end
end Go.Proofs.Ythlfdhooiekgjaa
/-
  The comparison of pairs that the sort is handed, walked by the kit's own steps. No condition.
-/
namespace Go.Proofs.Ythlfdhooiekgjaa
open Go Go.RowKit

/-- Pairs in lexicographic order. -/
def cmp2 (x0 x1 y0 y1 : Int) : Int := if x0 = y0 then Lib.compareInt x1 y1 else Lib.compareInt x0 y0

theorem cmpI_self (x : Int) : Lib.compareInt x x = 0 := by unfold Lib.compareInt; rw [if_neg (by omega), if_neg (by omega)]
theorem cmpI_ne {x y : Int} (h : ¬ x = y) : ¬ Lib.compareInt x y = 0 := by unfold Lib.compareInt; repeat' split
                                                                           all_goals omega

theorem isNaN_k (x : Int) (w : World) : Calls Try.prog 92 #[.int .i64 x] w fun e w' => e = .returned (.bool false) ∧ w' = w := by
  go_enter Try.func92, Try.ntmps92
  go_wp2
  go_ret
  exact ⟨by simp, rfl⟩

set_option maxHeartbeats 1000000 in
theorem cmpCompare_k (x y : Int) (w : World) : Calls Try.prog 80 #[.int .i64 x, .int .i64 y] w fun e w' => e = .returned (.int .i64 (Lib.compareInt x y)) ∧ w' = w := by
  go_enter Try.func80, Try.ntmps80
  go_wp2_with (go_at_call 92; refine (isNaN_k _ _).mono ?_; rintro e w' ⟨rfl, hw⟩; rw [hw])
  all_goals (go_ret; refine ⟨?_, rfl⟩; unfold Lib.compareInt; (repeat' split) <;> first | rfl | (exfalso; omega))

set_option maxHeartbeats 2000000 in
theorem compare_k (b1 o1 c1 b2 o2 c2 : Nat) (x0 x1 y0 y1 : Int) (w : World) (h0 : w.cell? ⟨b1, o1, none⟩ = some (.int .i64 x0)) (h1 : w.cell? ⟨b1, o1 + 1, none⟩ = some (.int .i64 x1)) (g0 : w.cell? ⟨b2, o2, none⟩ = some (.int .i64 y0)) (g1 : w.cell? ⟨b2, o2 + 1, none⟩ = some (.int .i64 y1)) :
    Calls Try.prog 68 #[.slice (some ⟨b1, o1, none⟩) 2 c1, .slice (some ⟨b2, o2, none⟩) 2 c2] w fun e w' => e = .returned (.int .i64 (cmp2 x0 x1 y0 y1)) ∧ w' = w := by
  go_enter Try.func68, Try.ntmps68
  go_wp2
  go_loopg [11] 2 (fun g s11 wr => ∃ k : Nat, k ≤ 2 ∧ 2 - k ≤ g ∧ s11 = .int .i64 k ∧ wr = w ∧ (1 ≤ k → x0 = y0) ∧ (2 ≤ k → x1 = y1))
  case atStart => exact ⟨0, by omega, by omega, rfl, rfl, fun h => by omega, fun h => by omega⟩
  case round =>
    obtain ⟨k, hk, hg, rfl, rfl, e0, e1⟩ := hrel
    rcases (show k = 0 ∨ k = 1 ∨ k = 2 by omega) with rfl | rfl | rfl
    · by_cases e : x0 = y0
      · subst e
        clear e0 e1
        go_wp2_with (go_at_call 80; refine (cmpCompare_k _ _ _).mono ?_; rintro e w' ⟨rfl, hw⟩; rw [hw, cmpI_self])
        go_roundg (2 - 1)
        case measure => omega
        case rel => exact ⟨1, by omega, by omega, rfl, rfl, by simp, by simp⟩
      · have hn := cmpI_ne e
        have A0 : cmp2 x0 x1 y0 y1 = Lib.compareInt x0 y0 := by unfold cmp2; rw [if_neg e]
        have A : Aside (cmp2 x0 x1 y0 y1 = Lib.compareInt x0 y0) := A0
        clear A0
        clear e0 e1 e
        generalize hr : Lib.compareInt x0 y0 = r at hn A
        have B : Aside (Lib.compareInt x0 y0 = r) := hr
        clear hr
        go_wp2_with (go_at_call 80; refine (cmpCompare_k _ _ _).mono ?_; rintro e w' ⟨rfl, hw⟩; rw [hw, B.out])
        go_ret
        exact ⟨by rw [A.out]; rfl, rfl⟩
    · have e := e0 (by omega)
      subst e
      clear e0
      by_cases e : x1 = y1
      · subst e
        clear e1
        go_wp2_with (go_at_call 80; refine (cmpCompare_k _ _ _).mono ?_; rintro e w' ⟨rfl, hw⟩; rw [hw, cmpI_self])
        go_roundg (2 - 2)
        case measure => omega
        case rel => exact ⟨2, by omega, by omega, rfl, rfl, by simp, by simp⟩
      · have hn := cmpI_ne e
        have A0 : cmp2 x0 x1 x0 y1 = Lib.compareInt x1 y1 := by unfold cmp2; rw [if_pos rfl]
        have A : Aside (cmp2 x0 x1 x0 y1 = Lib.compareInt x1 y1) := A0
        clear A0
        clear e1 e
        generalize hr : Lib.compareInt x1 y1 = r at hn A
        have B : Aside (Lib.compareInt x1 y1 = r) := hr
        clear hr
        go_wp2_with (go_at_call 80; refine (cmpCompare_k _ _ _).mono ?_; rintro e w' ⟨rfl, hw⟩; rw [hw, B.out])
        go_ret
        exact ⟨by rw [A.out]; rfl, rfl⟩
    · have e := e0 (by omega)
      have e' := e1 (by omega)
      subst e
      subst e'
      clear e0 e1
      have A0 : cmp2 x0 x1 x0 x1 = 0 := by unfold cmp2; rw [if_pos rfl, cmpI_self]
      have A : Aside (cmp2 x0 x1 x0 x1 = 0) := A0
      clear A0
      go_wp2
      go_ret
      exact ⟨by rw [A.out]; rfl, rfl⟩

/-- The closure. -/
theorem closure_k (b1 o1 c1 b2 o2 c2 : Nat) (x0 x1 y0 y1 : Int) (w : World) (h0 : w.cell? ⟨b1, o1, none⟩ = some (.int .i64 x0)) (h1 : w.cell? ⟨b1, o1 + 1, none⟩ = some (.int .i64 x1)) (g0 : w.cell? ⟨b2, o2, none⟩ = some (.int .i64 y0)) (g1 : w.cell? ⟨b2, o2 + 1, none⟩ = some (.int .i64 y1)) :
    Calls Try.prog 67 #[.slice (some ⟨b1, o1, none⟩) 2 c1, .slice (some ⟨b2, o2, none⟩) 2 c2] w fun e w' => e = .returned (.int .i64 (cmp2 x0 x1 y0 y1)) ∧ w' = w := by
  have hcon := compare_k b1 o1 c1 b2 o2 c2 x0 x1 y0 y1 w h0 h1 g0 g1
  clear h0 h1 g0 g1
  generalize cmp2 x0 x1 y0 y1 = r at hcon ⊢
  go_enter Try.func67, Try.ntmps67
  go_wp2_with (go_at_call 68; refine hcon.mono ?_; rintro e w' ⟨rfl, rfl⟩)
  go_ret
  exact ⟨rfl, rfl⟩
end Go.Proofs.Ythlfdhooiekgjaa
/-
  slices.SortFunc at own slices of pairs: the rows in lexicographic order. No condition.
-/
namespace Go.Proofs.Ythlfdhooiekgjaa
open Go Go.RowKit Go.Sort

/-- 'a' comes ahead of 'b'. -/
def lexLt (a b : List Int) : Prop := geti a 0 < geti b 0 ∨ (geti a 0 = geti b 0 ∧ geti a 1 < geti b 1)
theorem cmp2_lt (x0 x1 y0 y1 : Int) : cmp2 x0 x1 y0 y1 < 0 ↔ (x0 < y0 ∨ (x0 = y0 ∧ x1 < y1)) := by
  unfold cmp2 Lib.compareInt
  repeat' split
  all_goals omega
def cmpP (x y : List Int) : Int := cmp2 (geti x 0) (geti x 1) (geti y 0) (geti y 1)
theorem cmpP_lt {x y : List Int} : cmpP x y < 0 ↔ lexLt x y := cmp2_lt _ _ _ _
theorem pair_cells {w : World} {v : Value} {xs : List Int} (h : IntsAt w (fun _ => True) v xs) (h2 : xs.length = 2) : ∃ b o c, v = .slice (some ⟨b, o, none⟩) 2 c ∧ w.cell? ⟨b, o, none⟩ = some (.int .i64 (geti xs 0)) ∧ w.cell? ⟨b, o + 1, none⟩ = some (.int .i64 (geti xs 1)) := by
  obtain ⟨⟨a, cap, rfl, e1, e2, e3⟩, _⟩ := h
  obtain ⟨b, o, rfl, _, hc⟩ := e3 (by simp; omega)
  match xs, h2 with
  | [p, q], _ =>
    refine ⟨b, o, cap, rfl, ?_, ?_⟩
    · have := hc 0 (.int .i64 p) rfl; simpa [geti] using this
    · have := hc 1 (.int .i64 q) rfl; simpa [geti] using this
theorem cmpP_ok : CmpOk 67 cmpP (fun xs => xs.length = 2) := by
  refine ⟨⟨_, _, Try.func67, by kernel_rfl, rfl⟩, ?_, ?_, ?_, ?_⟩
  · intro w v1 v2 xs ys h1 h2 t1 t2
    obtain ⟨b1, o1, c1, rfl, p0, p1⟩ := pair_cells h1 t1
    obtain ⟨b2, o2, c2, rfl, q0, q1⟩ := pair_cells h2 t2
    refine (closure_k b1 o1 c1 b2 o2 c2 _ _ _ _ w p0 p1 q0 q1).mono ?_
    rintro e w' ⟨rfl, rfl⟩
    exact ⟨rfl, 0, #[], by rw [Go.Sort.grow_empty]; rfl⟩
  · intro x _; rw [cmpP_lt]; unfold lexLt; omega
  · intro x y z _ _ _ h1 h2; rw [cmpP_lt] at *; unfold lexLt at *; omega
  · intro x y z _ _ _ h1 h2; rw [cmpP_lt] at *; unfold lexLt at *; omega

section
variable {env : Env} {os : List AO} {d : Tmp} {ty : TypeId} {pos : String} {af : Array Edge} {l rest : List Oper} {K : APost}
theorem w_sort {x y : Operand} {ats : Array TypeId} {h : Nat} {e e2 : TypeId} {xss : List (List Int)} (hp : ∀ xs ∈ xss, xs.length = 2) (hn : 0 < xss.length ∧ xss.length ≤ 1048576) (hx : evo env x = some (.own h)) (hs : os[h]? = some (.sls e e2 xss)) (hy : evo env y = some (.val (.func (.func 67) #[] #[])))
    (h' : ∀ idx : List Nat, idx.Perm (List.range xss.length) → (∀ i j : Nat, i < j → j < idx.length → ¬ lexLt (xss.getD (idx.getD j 0) []) (xss.getD (idx.getD i 0) [])) → AOps Try.prog .seq l rest K (Env.up (env.mp (AV.noRow h)) d .any) ((((os ++ [AO.sli e2 []]).map (AO.via (AV.noRow h) h)).set h (.sls e e2 (idx.map fun i => xss.getD i []))).set os.length .dead)) :
    AOps Try.prog .seq l (⟨some d, .call { callee := .value (.func 66), args := #[x, y], argTypes := ats }, ty, pos, af, none⟩ :: rest) K env os :=
  w_sortg cmpP_ok hp hn hx hs hy fun idx h1 h2 => h' idx h1 fun i j hij hj => fun hlt => h2 i j hij hj (cmpP_lt.2 hlt)
end
end Go.Proofs.Ythlfdhooiekgjaa
/-
  The vertices of a support: the program's, out of the sorted pairs. No condition but a bound on the sizes.
-/
namespace Go.Proofs.Ythlfdhooiekgjaa
open Go Go.RowKit
attribute [local irreducible] AWp AOps ResIs Ret1 QOp LOp COp AFnV AFn Imms LeE LeO
set_option maxHeartbeats 1000000
set_option linter.unusedSimpArgs false
set_option linter.unusedVariables false

theorem lexle_of {a b : List Int} (h : ¬ lexLt b a) : Hl.lexle gX gY a b := by
  unfold lexLt at h
  unfold Hl.lexle
  simp only [gX, gY]
  omega
theorem rev_len {R : List Nat} : (R.reverse.map (AV.orow 0)).length = R.length := by simp
theorem rev_top {t : Nat} {r : List Nat} {n : Nat} (h : n = r.length) : (t :: r).reverse.getD n 0 = t := by
  subst h; simp [List.getD_eq_getElem?_getD]
theorem rev_top2 {t z : Nat} {r : List Nat} {n : Nat} (h : n = r.length) : (t :: z :: r).reverse.getD n 0 = z := by
  subst h; simp [List.getD_eq_getElem?_getD, List.getElem?_append]
theorem rev_cut {t : Nat} {r : List Nat} {n : Nat} (h : n = r.length) : (t :: r).reverse.take n = r.reverse := by
  subst h; simp [List.take_append]

theorem lim3 {e e2 e3 : TypeId} {ys : List (List Int)} (st : List Nat) : [AO.sls e e2 ys, .dead, .slr e3 (st.map (AV.orow 0))].map (AO.lim 3) = [AO.sls e e2 ys, .dead, .slr e3 (st.map (AV.orow 0))] := by
  have : (st.map (AV.orow 0)).map (AV.lim 3) = st.map (AV.orow 0) := by rw [List.map_map]; rfl
  simp only [List.map_cons, List.map_nil, AO.lim, this]

/-- The stack, its top first, over the first k rows. -/
def StkOk (ys : List (List Int)) (k : Nat) (R : List Nat) : Prop := R.Pairwise (· > ·) ∧ (∀ i ∈ R, i < k) ∧ R.length ≤ k
def CorOk (ys : List (List Int)) (k : Nat) : List Nat → Prop
  | [] => k = 0
  | t :: r => StkOk ys k (t :: r) ∧ Hl.Hull gX gY (Sp ys k) ((t :: r).map fun (i : Nat) => gets ys i) ∧ Hl.Low gX gY (Sp ys k) (gets ys (t : Nat))
def PopOk (ys : List (List Int)) (k : Nat) : List Nat → Prop
  | [] => False
  | t :: r => StkOk ys k (t :: r) ∧ Hl.Hull gX gY (Sp ys k) ((t :: r).map fun (i : Nat) => gets ys i) ∧ Hl.Aft gX gY (Sp ys k) (gets ys (t : Nat)) (gets ys (k : Nat)) ∧ geti (gets ys (k : Nat)) 1 < geti (gets ys (t : Nat)) 1

theorem StkOk.up {ys : List (List Int)} {k : Nat} {R : List Nat} (h : StkOk ys k R) : StkOk ys (k + 1) R := ⟨h.1, fun i hi => by have := h.2.1 i hi; omega, by have := h.2.2; omega⟩
theorem StkOk.push {ys : List (List Int)} {k : Nat} {R : List Nat} (h : StkOk ys k R) : StkOk ys (k + 1) (k :: R) :=
  ⟨List.pairwise_cons.2 ⟨fun i hi => h.2.1 i hi, h.1⟩, fun i hi => by
    rcases List.mem_cons.1 hi with rfl | hi
    · omega
    · have := h.2.1 i hi; omega, by have := h.2.2; rw [List.length_cons]; omega⟩
theorem StkOk.pop {ys : List (List Int)} {k t : Nat} {R : List Nat} (h : StkOk ys k (t :: R)) : StkOk ys k R :=
  ⟨(List.pairwise_cons.1 h.1).2, fun i hi => h.2.1 i (List.mem_cons_of_mem _ hi), by have := h.2.2; rw [List.length_cons] at this; omega⟩
theorem StkOk.nodup {ys : List (List Int)} {k : Nat} {R : List Nat} (h : StkOk ys k R) : R.reverse.Nodup := by
  have : R.Nodup := h.1.imp (fun h => Nat.ne_of_gt h)
  exact (List.reverse_perm R).nodup_iff.2 this
theorem gets_nat (ys : List (List Int)) (i : Nat) : ys.getD i [] = gets ys (i : Nat) := by simp [gets, List.getD_eq_getElem?_getD]

set_option maxHeartbeats 8000000 in
theorem corners_c (xss : List (List Int)) (h0 : 0 < xss.length) (h1 : xss.length ≤ 1048576) (hp : ∀ r ∈ xss, PB r) : AFn Try.prog 37 [.intss xss] (IsIntss 38 2 (verts xss)) := by
  have hcl := copyLists_c xss h1 (fun r hr => by have := (hp r hr).1; omega)
  (refine AFn.start Try.func37 Try.ntmps37 rfl (by kernel_rfl) fun hk => ?_; simp only [Env.start, enumF, List.length_cons, List.length_nil, Nat.reduceAdd, Nat.reduceSub, List.cons_append, List.nil_append])
  repeat' (first | (apply AOps.nil; try simp only [List.nil_append, List.cons_append, List.set_cons_zero, List.set_cons_succ, List.length_cons, List.length_nil, Nat.reduceAdd, AV.sh, AV.sh1, AV.sh0, AO.sh, List.map_cons, List.map_nil, Nat.zero_add, Nat.add_zero, setAll]) | (apply w_move; exact rfl; exact rfl) | (apply w_assign; exact rfl; exact rfl) | apply AWp.seq | apply AWp.region | (apply w_callm (hcl); (focus ((repeat (first | exact im_nil | refine im_cons rfl (.intss _) ?_)); done)); rintro r os0 ⟨rfl, rfl⟩; try simp only [List.nil_append, List.cons_append, List.set_cons_zero, List.set_cons_succ, List.length_cons, List.length_nil, Nat.reduceAdd, AV.sh, AV.sh1, AV.sh0, AO.sh, List.map_cons, List.map_nil, Nat.zero_add, Nat.add_zero, setAll]))
  refine w_sort (fun r hr => (hp r hr).1) ⟨h0, h1⟩ rfl rfl rfl fun idx hperm hsort => ?_
  simp only [Env.mp, List.map_cons, List.map_nil, List.set_cons_zero, List.set_cons_succ, AV.kill, AV.kill1, AO.kill, AV.noRow, AV.noRow1, AO.via, reduceIte, Nat.reduceEqDiff, Nat.reduceLT, Env.up, Nat.zero_ne_one, Nat.one_ne_zero, Nat.reduceAdd, List.cons_append, List.nil_append]
  have hil : idx.length = xss.length := by have := hperm.length_eq; simpa using this
  obtain ⟨ys, eys⟩ : ∃ ys, ys = idx.map fun i => xss.getD i [] := ⟨_, rfl⟩
  have hyl : ys.length = xss.length := by rw [eys]; simpa using hil
  have hmem : ∀ r, r ∈ ys ↔ r ∈ xss := by
    intro r
    rw [eys, List.mem_map]
    constructor
    · rintro ⟨i, hi, rfl⟩
      have := List.mem_range.1 (hperm.mem_iff.1 hi)
      rw [List.getD_eq_getElem?_getD, List.getElem?_eq_getElem this]
      exact List.getElem_mem this
    · intro hr
      obtain ⟨j, hj⟩ := List.getElem?_of_mem hr
      have := (List.getElem?_eq_some_iff.1 hj).1
      exact ⟨j, hperm.mem_iff.2 (List.mem_range.2 this), by rw [List.getD_eq_getElem?_getD, hj]; rfl⟩
  have hrow : ∀ i : Nat, i < ys.length → gets ys (i : Nat) = xss.getD (idx.getD i 0) [] := by
    intro i hi
    rw [← gets_nat, eys, List.getD_eq_getElem?_getD, List.getElem?_map, List.getD_eq_getElem?_getD (l := idx), List.getElem?_eq_getElem (by omega)]
    rfl
  have hs : ∀ k : Nat, k < ys.length → ∀ q, Sp ys k q → Hl.lexle gX gY q (gets ys (k : Nat)) := by
    rintro k hk q ⟨j, hj, rfl⟩
    have := hsort j k hj (by omega)
    rw [hrow j (by omega), hrow k hk]
    exact lexle_of this
  have hpi : ∀ i : Nat, i < ys.length → PB (gets ys (i : Nat)) := fun i hi => hp _ ((hmem _).1 (gets_mem (by omega) (by omega)))
  rw [← eys]
  clear hrow hsort hperm hcl hil eys idx
  repeat' (first | (apply AOps.nil; try simp only [List.nil_append, List.cons_append, List.set_cons_zero, List.set_cons_succ, List.length_cons, List.length_nil, Nat.reduceAdd, AV.sh, AV.sh1, AV.sh0, AO.sh, List.map_cons, List.map_nil, Nat.zero_add, Nat.add_zero, setAll]) | apply AWp.seq | apply AWp.region)
  refine w_bsx0 0 rfl ?_
  try simp only [List.nil_append, List.cons_append, List.set_cons_zero, List.set_cons_succ, List.length_cons, List.length_nil, Nat.reduceAdd, AV.sh, AV.sh1, AV.sh0, AO.sh, List.map_cons, List.map_nil, Nat.zero_add, Nat.add_zero, setAll]
  repeat' (first | (apply AOps.nil; try simp only [List.nil_append, List.cons_append, List.set_cons_zero, List.set_cons_succ, List.length_cons, List.length_nil, Nat.reduceAdd, AV.sh, AV.sh1, AV.sh0, AO.sh, List.map_cons, List.map_nil, Nat.zero_add, Nat.add_zero, setAll]) | (apply w_move; exact rfl; exact rfl) | (apply w_assign; exact rfl; exact rfl) | apply AWp.seq | apply AWp.region | apply AWp.block | (apply w_len; exact rfl; exact rfl; first | exact .ints _ | exact .intss _ | exact .sli rfl | exact .sls rfl | exact .slr rfl | exact .orow rfl | exact .nil))
  refine AWp.loop (ι := Nat × List Nat) (fun x => ⟨66, [(4, .own 2), (12, .own 0), (13, .i ys.length), (14, .i x.1)]⟩) (fun x => [.sls 38 2 ys, .dead, .slr 38 (x.2.reverse.map (AV.orow 0))]) (fun x => x.1 ≤ ys.length ∧ CorOk ys x.1 x.2) (fun x => ys.length - x.1) (0, []) ⟨Nat.zero_le _, rfl⟩ ⟨lee rfl (by (repeat (first | exact le_nil | refine le_eq rfl rfl ?_))), by (repeat (first | exact lo_nil | refine lo_dead ?_ | refine lo_eq rfl ?_)), rfl, (by first | exact rfl | exact lim3 _)⟩ ?_
  rintro ⟨k, R⟩ ⟨k0, k1⟩
  simp only at k0 k1
  have rl := rev_len (R := R)
  by_cases hk : k < ys.length
  · have hpk := hpi k hk
    obtain ⟨p1, p2, p3⟩ := hpk
    have esp := sp_succ ys k
    have hsk := hs k hk
    cases R with
    | nil =>
      obtain rfl : k = 0 := k1
      have rl0 : ((([] : List Nat).reverse).map (AV.orow 0)).length = 0 := rfl
      have rl1 : (([] : List Nat).reverse).length = 0 := rfl
      have rl2 : ([] : List Nat).reverse ++ [0] = [0].reverse := rfl
      generalize est : ([] : List Nat).reverse = st at *
      repeat' (first | (apply AOps.nil; try simp only [List.nil_append, List.cons_append, List.set_cons_zero, List.set_cons_succ, List.length_cons, List.length_nil, Nat.reduceAdd, AV.sh, AV.sh1, AV.sh0, AO.sh, List.map_cons, List.map_nil, Nat.zero_add, Nat.add_zero, setAll]) | ((apply AOps.splitP; exact rfl; exact rfl) <;> intro h) | (apply w_move; exact rfl; exact rfl) | (apply w_assign; exact rfl; exact rfl) | apply AWp.seq | apply AWp.region | ((apply AWp.condP; exact rfl) <;> intro h) | (apply AWp.condF; exact rfl) | apply AWp.block | apply AWp.ret | apply AWp.exit | apply AWp.skip | (apply AWp.regionQ; kernel_rfl; kernel_rfl) | (apply w_skip; exact rfl) | (apply w_pickF; exact rfl; exact rfl; exact rfl) | (apply w_len; exact rfl; exact rfl; first | exact .ints _ | exact .intss _ | exact .sli rfl | exact .sls rfl | exact .slr rfl | exact .orow rfl | exact .nil) | omega | ((first | apply w_lss | apply w_gtr | apply w_idx | apply w_ld); iterate 3 exact rfl) | (apply w_idxo; exact rfl; exact rfl; (exact .sls rfl); exact rfl) | (apply w_ldls; iterate 4 exact rfl))
      refine AWp.loop (ι := Unit) (fun _ => ⟨66, [(4, .own 2), (6, .orow 0 0), (12, .own 0), (13, .i ys.length), (14, .i 0)]⟩) (fun x => [.sls 38 2 ys, .dead, .slr 38 (st.map (AV.orow 0))]) (fun x => True) (fun x => 0) () trivial ⟨lee rfl (by (repeat (first | exact le_nil | refine le_eq rfl rfl ?_))), by (repeat (first | exact lo_nil | refine lo_dead ?_ | refine lo_eq rfl ?_)), rfl, (by first | exact rfl | exact lim3 _)⟩ ?_
      rintro _ _
      repeat' (first | (apply AOps.nil; try simp only [List.nil_append, List.cons_append, List.set_cons_zero, List.set_cons_succ, List.length_cons, List.length_nil, Nat.reduceAdd, AV.sh, AV.sh1, AV.sh0, AO.sh, List.map_cons, List.map_nil, Nat.zero_add, Nat.add_zero, setAll]) | ((apply AOps.splitP; exact rfl; exact rfl) <;> intro h) | (apply w_move; exact rfl; exact rfl) | (apply w_assign; exact rfl; exact rfl) | apply AWp.seq | apply AWp.region | (apply AWp.condF; exact rfl) | apply AWp.exit | (apply AWp.regionQ; kernel_rfl; kernel_rfl) | (apply w_skip; exact rfl) | (apply w_pickF; exact rfl; exact rfl; exact rfl) | (apply w_len; exact rfl; exact rfl; first | exact .ints _ | exact .intss _ | exact .sli rfl | exact .sls rfl | exact .slr rfl | exact .orow rfl | exact .nil) | ((first | apply w_bsx1 | apply w_gtr | apply w_add | apply w_sub | apply w_idx); iterate 3 exact rfl) | (apply w_appx; exact rfl; exact rfl; exact rfl; exact rfl; exact rfl; rotate_left 1; simp only [Env.mp, List.map_cons, List.map_nil, List.set_cons_zero, List.set_cons_succ, AV.kill, AV.kill1, AO.kill, AV.rin, AV.rin1, AV.noRow, AV.noRow1, AO.via, reduceIte, Nat.reduceEqDiff, Nat.reduceLT, Env.up, Nat.zero_ne_one, Nat.one_ne_zero, Nat.reduceAdd, List.cons_append, List.nil_append]; rotate_left 1) | omega | (apply inI_of <;> omega))
      refine ⟨(1, [0]), ⟨by simp only; omega, ⟨⟨by simp, by simp, by simp⟩, ?_⟩⟩, by simp only; omega, by simp only [← rl2]; exact ⟨lee rfl (by (repeat (first | exact le_nil | refine le_eq rfl rfl ?_))), by (repeat (first | exact lo_nil | refine lo_dead ?_ | refine lo_eq rfl ?_)), rfl, (by first | exact rfl | exact lim3 _)⟩⟩
      have := Hl.Hull.one (X := gX) (Y := gY) (S := Sp ys 0) (p := gets ys ((0 : Nat) : Int)) (fun q ⟨j, hj, _⟩ => by omega)
      rw [esp] at this
      exact this
    | cons t r =>
      obtain ⟨k2, k3, k4⟩ := k1
      have htk : t < k := k2.2.1 t (by simp)
      have e1 : (t :: r).reverse.getD (((((t :: r).reverse.map (AV.orow 0)).length : Nat) : Int) - 1).toNat 0 = t := rev_top (by rw [rl]; simp)
      have e2 : ys.getD ((t :: r).reverse.getD (((((t :: r).reverse.map (AV.orow 0)).length : Nat) : Int) - 1).toNat 0) [] = gets ys (t : Nat) := by rw [e1, gets_nat]
      have rl' : ((t :: r).reverse.map (AV.orow 0)).length = r.length + 1 := by rw [rl]; rfl
      have hpt := hpi t (by omega)
      have hl2 : (ys.getD ((t :: r).reverse.getD (((((t :: r).reverse.map (AV.orow 0)).length : Nat) : Int) - 1).toNat 0) []).length = 2 := by rw [e2]; exact hpt.1
      have hl1 : ((t :: r).reverse).length = r.length + 1 := by simp
      have hl3 : (ys.getD (k : Int).toNat []).length = 2 := p1
      by_cases hy : geti (gets ys (t : Nat)) 1 ≤ geti (gets ys (k : Nat)) 1
      · have hy' : geti (ys.getD ((t :: r).reverse.getD (((((t :: r).reverse.map (AV.orow 0)).length : Nat) : Int) - 1).toNat 0) []) ((Int.toNat 1 : Nat) : Int) ≤ geti (ys.getD (k : Int).toNat []) ((Int.toNat 1 : Nat) : Int) := by rw [e2]; exact hy
        have k20 := k2.2.2
        rw [List.length_cons] at k20
        generalize est : (t :: r).reverse = st at *
        repeat' (first | (apply AOps.nil; try simp only [List.nil_append, List.cons_append, List.set_cons_zero, List.set_cons_succ, List.length_cons, List.length_nil, Nat.reduceAdd, AV.sh, AV.sh1, AV.sh0, AO.sh, List.map_cons, List.map_nil, Nat.zero_add, Nat.add_zero, setAll]) | ((apply AOps.splitP; exact rfl; exact rfl) <;> intro h) | (apply w_move; exact rfl; exact rfl) | (apply w_assign; exact rfl; exact rfl) | apply AWp.seq | apply AWp.region | ((apply AWp.condP; exact rfl) <;> intro h) | (apply AWp.condF; exact rfl) | apply AWp.block | apply AWp.ret | apply AWp.exit | apply AWp.skip | (apply AWp.regionQ; kernel_rfl; kernel_rfl) | (apply w_skip; exact rfl) | (apply w_pickT; exact rfl; exact rfl; exact rfl) | (apply w_pickF; exact rfl; exact rfl; exact rfl) | (apply w_len; exact rfl; exact rfl; first | exact .ints _ | exact .intss _ | exact .sli rfl | exact .sls rfl | exact .slr rfl | exact .orow rfl | exact .nil) | omega | ((first | apply w_lss | apply w_gtr | apply w_geq | apply w_add | apply w_sub | apply w_idx | apply w_ld); iterate 3 exact rfl) | (apply w_idxo; exact rfl; exact rfl; (first | exact .sls rfl | exact .slr rfl); exact rfl) | ((first | apply w_idxr | apply w_ldr); iterate 4 exact rfl) | (apply w_ldls; iterate 4 exact rfl) | (apply w_ldrp; iterate 4 exact rfl) | (apply inI_of <;> omega))
        refine ⟨(k + 1, t :: r), ⟨by simp only; omega, ?_⟩, by simp only; omega, ?_⟩
        · have := k3.skip hsk k4 hy
          rw [esp] at this
          exact ⟨k2.up, this⟩
        · simp only [est]
          exact ⟨lee rfl (by (repeat (first | exact le_nil | refine le_eq rfl rfl ?_))), by (repeat (first | exact lo_nil | refine lo_dead ?_ | refine lo_eq rfl ?_)), rfl, (by first | exact rfl | exact lim3 _)⟩
      · have hall : ∀ q, Sp ys k q → geti (gets ys (k : Nat)) 1 < gY q := fun q hq => by have := (k4 q hq).1; simp only [gY] at *; omega
        have hy' : ¬ geti (ys.getD ((t :: r).reverse.getD (((((t :: r).reverse.map (AV.orow 0)).length : Nat) : Int) - 1).toNat 0) []) ((Int.toNat 1 : Nat) : Int) ≤ geti (ys.getD (k : Int).toNat []) ((Int.toNat 1 : Nat) : Int) := by rw [e2]; exact hy
        have k20 := k2.2.2
        rw [List.length_cons] at k20
        generalize est : (t :: r).reverse = st at *
        repeat' (first | (apply AOps.nil; try simp only [List.nil_append, List.cons_append, List.set_cons_zero, List.set_cons_succ, List.length_cons, List.length_nil, Nat.reduceAdd, AV.sh, AV.sh1, AV.sh0, AO.sh, List.map_cons, List.map_nil, Nat.zero_add, Nat.add_zero, setAll]) | ((apply AOps.splitP; exact rfl; exact rfl) <;> intro h) | (apply w_move; exact rfl; exact rfl) | (apply w_assign; exact rfl; exact rfl) | apply AWp.seq | apply AWp.region | ((apply AWp.condP; exact rfl) <;> intro h) | (apply AWp.condF; exact rfl) | apply AWp.block | apply AWp.ret | apply AWp.exit | apply AWp.skip | (apply AWp.regionQ; kernel_rfl; kernel_rfl) | (apply w_skip; exact rfl) | (apply w_pickT; exact rfl; exact rfl; exact rfl) | (apply w_pickF; exact rfl; exact rfl; exact rfl) | (apply w_len; exact rfl; exact rfl; first | exact .ints _ | exact .intss _ | exact .sli rfl | exact .sls rfl | exact .slr rfl | exact .orow rfl | exact .nil) | omega | ((first | apply w_lss | apply w_gtr | apply w_geq | apply w_sub | apply w_idx | apply w_ld); iterate 3 exact rfl) | (apply w_idxo; exact rfl; exact rfl; (first | exact .sls rfl | exact .slr rfl); exact rfl) | ((first | apply w_idxr | apply w_ldr); iterate 4 exact rfl) | (apply w_ldls; iterate 4 exact rfl) | (apply w_ldrp; iterate 4 exact rfl) | (apply inI_of <;> omega))
        refine AWp.loop (ι := List Nat) (fun _ => ⟨66, [(4, .own 2), (6, .orow 0 k), (12, .own 0), (13, .i ys.length), (14, .i k)]⟩) (fun x => [.sls 38 2 ys, .dead, .slr 38 (x.reverse.map (AV.orow 0))]) (fun x => PopOk ys k x) (fun x => x.length) (t :: r) ⟨k2, k3, Hl.aft_low k4 (by simp only [gY]; omega), by omega⟩ (by simp only [est]; exact ⟨lee rfl (by (repeat (first | exact le_nil | refine le_eq rfl rfl ?_))), by (repeat (first | exact lo_nil | refine lo_dead ?_ | refine lo_eq rfl ?_)), rfl, (by first | exact rfl | exact lim3 _)⟩) ?_
        clear e1 e2 rl' hpt hl2 hl1 hy hy' est k20 k2 k3 k4 rl htk
        rintro R k2
        cases R with
        | nil => exact k2.elim
        | cons t r =>
          obtain ⟨k2, k3, k4, k5⟩ := k2
          have htk : t < k := k2.2.1 t (by simp)
          have k20 := k2.2.2
          rw [List.length_cons] at k20
          have rl' : ((t :: r).reverse.map (AV.orow 0)).length = r.length + 1 := by rw [rev_len]; rfl
          have hl1 : ((t :: r).reverse).length = r.length + 1 := by simp
          have hpt := hpi t (by omega)
          have eapp : (t :: r).reverse ++ [k] = (k :: t :: r).reverse := by simp
          have eapp' : (t :: r).reverse ++ [(k : Int).toNat] = (k :: t :: r).reverse := eapp
          cases r with
          | nil =>
            simp only [List.length_nil] at rl' hl1
            generalize est : [t].reverse = st at *
            repeat' (first | (apply AOps.nil; try simp only [List.nil_append, List.cons_append, List.set_cons_zero, List.set_cons_succ, List.length_cons, List.length_nil, Nat.reduceAdd, AV.sh, AV.sh1, AV.sh0, AO.sh, List.map_cons, List.map_nil, Nat.zero_add, Nat.add_zero, setAll]) | ((apply AOps.splitP; exact rfl; exact rfl) <;> intro h) | (apply w_move; exact rfl; exact rfl) | (apply w_assign; exact rfl; exact rfl) | apply AWp.seq | apply AWp.region | (apply AWp.condF; exact rfl) | apply AWp.exit | (apply AWp.regionQ; kernel_rfl; kernel_rfl) | (apply w_skip; exact rfl) | (apply w_pickF; exact rfl; exact rfl; exact rfl) | (apply w_len; exact rfl; exact rfl; first | exact .ints _ | exact .intss _ | exact .sli rfl | exact .sls rfl | exact .slr rfl | exact .orow rfl | exact .nil) | ((first | apply w_bsx1 | apply w_gtr | apply w_add | apply w_sub | apply w_idx); iterate 3 exact rfl) | (apply w_appx; exact rfl; exact rfl; exact rfl; exact rfl; exact rfl; rotate_left 1; simp only [Env.mp, List.map_cons, List.map_nil, List.set_cons_zero, List.set_cons_succ, AV.kill, AV.kill1, AO.kill, AV.rin, AV.rin1, AV.noRow, AV.noRow1, AO.via, reduceIte, Nat.reduceEqDiff, Nat.reduceLT, Env.up, Nat.zero_ne_one, Nat.one_ne_zero, Nat.reduceAdd, List.cons_append, List.nil_append]; rotate_left 1) | omega | (apply inI_of <;> omega))
            refine ⟨(k + 1, [k, t]), ⟨by simp only; omega, ?_⟩, by simp only; omega, ?_⟩
            · have := Hl.Hull.push hsk k3 k4 k5 hall (fun z r' e => by cases e)
              rw [esp] at this
              exact ⟨k2.push, this⟩
            · simp only [← eapp]
              exact ⟨lee rfl (by (repeat (first | exact le_nil | refine le_eq rfl rfl ?_))), by (repeat (first | exact lo_nil | refine lo_dead ?_ | refine lo_eq rfl ?_)), rfl, (by first | exact rfl | exact lim3 _)⟩
          | cons z r =>
            have hzk : z < k := k2.2.1 z (by simp)
            have hpz := hpi z (by omega)
            have e1 : (t :: z :: r).reverse.getD (((((t :: z :: r).reverse.map (AV.orow 0)).length : Nat) : Int) - 1).toNat 0 = t := rev_top (by rw [rl']; simp)
            have e2 : (t :: z :: r).reverse.getD (((((t :: z :: r).reverse.map (AV.orow 0)).length : Nat) : Int) - 2).toNat 0 = z := rev_top2 (by rw [rl', List.length_cons]; omega)
            have ct := turns_c (gets ys (z : Nat)) (gets ys (t : Nat)) (gets ys (k : Nat)) hpz hpt ⟨p1, p2, p3⟩
            have ecut : (t :: z :: r).reverse.take (((((t :: z :: r).reverse.map (AV.orow 0)).length : Nat) : Int) - 1).toNat = (z :: r).reverse := rev_cut (by rw [rl']; simp)
            have ct' : AFnV Try.prog 69 [.ints (ys.getD ((t :: z :: r).reverse.getD (((((t :: z :: r).reverse.map (AV.orow 0)).length : Nat) : Int) - 2).toNat 0) []), .ints (ys.getD ((t :: z :: r).reverse.getD (((((t :: z :: r).reverse.map (AV.orow 0)).length : Nat) : Int) - 1).toNat 0) []), .ints (ys.getD k [])] (.bool (decide (0 < Hl.cr gX gY (gets ys (z : Nat)) (gets ys (t : Nat)) (gets ys (k : Nat))))) := by
              rw [e1, e2, gets_nat, gets_nat, gets_nat]; exact ct
            by_cases hcr : 0 < Hl.cr gX gY (gets ys (z : Nat)) (gets ys (t : Nat)) (gets ys (k : Nat))
            · rw [decide_eq_true hcr] at ct'
              simp only [List.length_cons] at rl' hl1 k20
              generalize est : (t :: z :: r).reverse = st at *
              repeat' (first | (apply AOps.nil; try simp only [List.nil_append, List.cons_append, List.set_cons_zero, List.set_cons_succ, List.length_cons, List.length_nil, Nat.reduceAdd, AV.sh, AV.sh1, AV.sh0, AO.sh, List.map_cons, List.map_nil, Nat.zero_add, Nat.add_zero, setAll]) | ((apply AOps.splitP; exact rfl; exact rfl) <;> intro h) | (apply w_move; exact rfl; exact rfl) | (apply w_assign; exact rfl; exact rfl) | apply AWp.seq | apply AWp.region | (apply AWp.condF; exact rfl) | apply AWp.exit | (apply AWp.regionQ; kernel_rfl; kernel_rfl) | (apply w_skip; exact rfl) | (apply w_pickT; exact rfl; exact rfl; exact rfl) | (apply w_pickF; exact rfl; exact rfl; exact rfl) | (apply w_len; exact rfl; exact rfl; first | exact .ints _ | exact .intss _ | exact .sli rfl | exact .sls rfl | exact .slr rfl | exact .orow rfl | exact .nil) | ((first | apply w_bsx1 | apply w_gtr | apply w_add | apply w_sub | apply w_idx | apply w_ld); iterate 3 exact rfl) | (apply w_appx; exact rfl; exact rfl; exact rfl; exact rfl; exact rfl; rotate_left 1; simp only [Env.mp, List.map_cons, List.map_nil, List.set_cons_zero, List.set_cons_succ, AV.kill, AV.kill1, AO.kill, AV.rin, AV.rin1, AV.noRow, AV.noRow1, AO.via, reduceIte, Nat.reduceEqDiff, Nat.reduceLT, Env.up, Nat.zero_ne_one, Nat.one_ne_zero, Nat.reduceAdd, List.cons_append, List.nil_append]; rotate_left 1) | (apply w_call (ct'); exact rfl; exact rfl; focus ((repeat (first | exact im_nil | refine im_cons rfl (.orow rfl) ?_)); done)) | omega | ((apply w_not); iterate 2 exact rfl) | (apply w_idxo; exact rfl; exact rfl; (exact .slr rfl); exact rfl) | ((apply w_ldr); iterate 4 exact rfl) | (apply inI_of <;> omega))
              refine ⟨(k + 1, k :: t :: z :: r), ⟨by simp only; omega, ?_⟩, by simp only; omega, ?_⟩
              · have := Hl.Hull.push hsk k3 k4 k5 hall (fun z' r' e => by cases e; exact hcr)
                rw [esp] at this
                exact ⟨k2.push, this⟩
              · simp only [← eapp]
                exact ⟨lee rfl (by (repeat (first | exact le_nil | refine le_eq rfl rfl ?_))), by (repeat (first | exact lo_nil | refine lo_dead ?_ | refine lo_eq rfl ?_)), rfl, (by first | exact rfl | exact lim3 _)⟩
            · rw [decide_eq_false hcr] at ct'
              simp only [List.length_cons] at rl' hl1 k20
              generalize est : (t :: z :: r).reverse = st at *
              repeat' (first | (apply AOps.nil; try simp only [List.nil_append, List.cons_append, List.set_cons_zero, List.set_cons_succ, List.length_cons, List.length_nil, Nat.reduceAdd, AV.sh, AV.sh1, AV.sh0, AO.sh, List.map_cons, List.map_nil, Nat.zero_add, Nat.add_zero, setAll]) | ((apply AOps.splitP; exact rfl; exact rfl) <;> intro h) | (apply w_move; exact rfl; exact rfl) | (apply w_assign; exact rfl; exact rfl) | apply AWp.seq | apply AWp.region | (apply AWp.condT; exact rfl) | (apply AWp.condF; exact rfl) | apply AWp.block | apply AWp.exit | apply AWp.skip | (apply AWp.regionQ; kernel_rfl; kernel_rfl) | (apply w_skip; exact rfl) | (apply w_pickT; exact rfl; exact rfl; exact rfl) | (apply w_pickF; exact rfl; exact rfl; exact rfl) | (apply w_len; exact rfl; exact rfl; first | exact .ints _ | exact .intss _ | exact .sli rfl | exact .sls rfl | exact .slr rfl | exact .orow rfl | exact .nil) | ((first | apply w_bsx1 | apply w_gtr | apply w_add | apply w_sub | apply w_idx | apply w_ld | apply w_slhi); iterate 3 exact rfl) | (apply w_appx; exact rfl; exact rfl; exact rfl; exact rfl; exact rfl; rotate_left 1; simp only [Env.mp, List.map_cons, List.map_nil, List.set_cons_zero, List.set_cons_succ, AV.kill, AV.kill1, AO.kill, AV.rin, AV.rin1, AV.noRow, AV.noRow1, AO.via, reduceIte, Nat.reduceEqDiff, Nat.reduceLT, Env.up, Nat.zero_ne_one, Nat.one_ne_zero, Nat.reduceAdd, List.cons_append, List.nil_append]; rotate_left 1) | (apply w_cutx; exact rfl; exact rfl; exact rfl; rotate_left 2; simp only [Env.mp, List.map_cons, List.map_nil, List.set_cons_zero, List.set_cons_succ, AV.kill, AV.kill1, AO.kill, AV.rin, AV.rin1, AV.noRow, AV.noRow1, AO.via, reduceIte, Nat.reduceEqDiff, Nat.reduceLT, Env.up, Nat.zero_ne_one, Nat.one_ne_zero, Nat.reduceAdd, List.cons_append, List.nil_append]; rotate_left 1) | (apply w_call (ct'); exact rfl; exact rfl; focus ((repeat (first | exact im_nil | refine im_cons rfl (.orow rfl) ?_)); done)) | omega | ((apply w_not); iterate 2 exact rfl) | (apply w_idxo; exact rfl; exact rfl; (exact .slr rfl); exact rfl) | ((apply w_ldr); iterate 4 exact rfl) | (apply inI_of <;> omega))
              refine ⟨z :: r, ⟨k2.pop, k3.rest, k3.pop hcr (by simp only [gY]; omega), ?_⟩, by simp only [List.length_cons]; omega, ?_⟩
              · have := k3.2.1
                simp only [gY] at this
                omega
              · simp only [← ecut]
                exact ⟨lee rfl (by (repeat (first | exact le_nil | refine le_eq rfl rfl ?_))), by (repeat (first | exact lo_nil | refine lo_dead ?_ | refine lo_eq rfl ?_)), rfl, (by first | exact rfl | exact lim3 _)⟩
  · have e : k = ys.length := by omega
    subst e
    cases R with
    | nil => simp only [CorOk] at k1; omega
    | cons t r =>
      obtain ⟨k2, k3, k4⟩ := k1
      have hv : verts xss = (t :: r).reverse.map fun i => ys.getD i [] := by
        refine verts_eq (fun r hr => (hp r hr).1) ?_
        have hg := k3.gw k4
        have e1 : Sp ys ys.length = (· ∈ xss) := funext fun q => propext ((sp_all ys q).trans (hmem q))
        rw [e1] at hg
        unfold HasV
        have e2 : (t :: r).reverse.map (fun i => ys.getD i []) = ((t :: r).map fun (i : Nat) => gets ys i).reverse := by
          rw [← List.map_reverse]
          congr 1
        rw [e2]
        exact hg
      refine AWp.merge (p := 2) (k := 0) rfl rfl k2.nodup ?_
      simp only [Env.mp, List.map_cons, List.map_nil, List.set_cons_zero, List.set_cons_succ, AV.kill, AV.kill1, AO.kill, AV.noRow, AV.noRow1, AO.via, reduceIte, Nat.reduceEqDiff, Nat.reduceLT, Env.up, Nat.zero_ne_one, Nat.one_ne_zero, Nat.reduceAdd, List.cons_append, List.nil_append]
      rw [hv]
      repeat' (first | (apply AOps.nil; try simp only [List.nil_append, List.cons_append, List.set_cons_zero, List.set_cons_succ, List.length_cons, List.length_nil, Nat.reduceAdd, AV.sh, AV.sh1, AV.sh0, AO.sh, List.map_cons, List.map_nil, Nat.zero_add, Nat.add_zero, setAll]) | (apply w_move; exact rfl; exact rfl) | (apply w_assign; exact rfl; exact rfl) | apply AWp.seq | apply AWp.region | ((apply AWp.condP; exact rfl) <;> intro h) | apply AWp.block | apply AWp.ret | apply AWp.exit | apply AWp.skip | omega | ((apply w_lss); iterate 3 exact rfl))
      exact ⟨_, _, _, .v1 Try.results37 rfl, .sls rfl, rfl, rfl⟩
end Go.Proofs.Ythlfdhooiekgjaa
/-
  The laws' helpers that write marks into a result and look for them. No condition but a bound on the sizes.
-/
namespace Go.Proofs.Ythlfdhooiekgjaa
open Go Go.RowKit
attribute [local irreducible] AWp AOps ResIs Ret1 QOp LOp COp AFnV AFn Imms LeE LeO
set_option maxHeartbeats 1000000
set_option linter.unusedSimpArgs false
set_option linter.unusedVariables false

end Go.Proofs.Ythlfdhooiekgjaa
/-
  Marks written into lists of lists. No condition but a bound on the sizes.
-/
namespace Go.Proofs.Ythlfdhooiekgjaa
open Go Go.RowKit
attribute [local irreducible] AWp AOps ResIs Ret1 QOp LOp COp AFnV AFn Imms LeE LeO
set_option maxHeartbeats 1000000
set_option linter.unusedSimpArgs false
set_option linter.unusedVariables false

/-! ### Marks -/
/-- A new slice of rows, and a code. -/
def IsSSC (T T2 : TypeId) (xss : List (List Int)) (e : Int) (r : AV) (os : List AO) : Prop := r = .tup [.own 0, .i e] ∧ os = [.sls T T2 xss]
end Go.Proofs.Ythlfdhooiekgjaa
/-
  Vertices of supports: their order, whether the polygon is convenient, edges, areas. No condition but a bound on the sizes.
-/
namespace Go.Proofs.Ythlfdhooiekgjaa
open Go Go.RowKit
attribute [local irreducible] AWp AOps ResIs Ret1 QOp LOp COp AFnV AFn Imms LeE LeO
set_option maxHeartbeats 1000000
set_option linter.unusedSimpArgs false
set_option linter.unusedVariables false

/-! ### Chains -/
/-- To the right and down. -/
def Ch : List (List Int) → Prop
  | a :: b :: r => geti a 0 < geti b 0 ∧ geti b 1 < geti a 1 ∧ Ch (b :: r)
  | _ => True

theorem gwf_chain {S : List Int → Prop} : ∀ {r : List (List Int)} {a : List Int}, Hl.GWf gX gY S (a :: r) → (∀ q, S q → gY q < gY a → gX a < gX q) → Ch (a :: r) ∧ ∀ v ∈ r, S v
  | [], a, _, _ => ⟨trivial, fun v hv => by cases hv⟩
  | b :: r, a, h, hx => by
    obtain ⟨⟨h1, h2, h3⟩, h4⟩ := h
    have xb := hx b h1 h2
    have ih := gwf_chain h4 (fun q hq hy => by
      have h5 := (h3 q hq (by omega)).1
      unfold Hl.cr at h5
      simp only [gX, gY] at *
      apply Classical.byContradiction
      intro hn
      have p1 := Int.mul_pos (show 0 < geti b 0 - geti a 0 by omega) (show 0 < geti b 1 - geti q 1 by omega)
      have p2 := Int.mul_nonneg (show 0 ≤ geti a 1 - geti b 1 by omega) (show 0 ≤ geti b 0 - geti q 0 by omega)
      grind)
    refine ⟨⟨xb, h2, ih.1⟩, fun v hv => ?_⟩
    rcases List.mem_cons.1 hv with rfl | hv
    · exact h1
    · exact ih.2 v hv

theorem ch_len : ∀ {r : List (List Int)} {a : List Int}, Ch (a :: r) → (∀ v ∈ a :: r, 0 ≤ geti v 1) → (r.length : Int) ≤ geti a 1
  | [], a, _, h => by have := h a (by simp); simp; exact this
  | b :: r, a, hc, h => by
    have ih := ch_len hc.2.2 (fun v hv => h v (List.mem_cons_of_mem _ hv))
    have := hc.2.1
    rw [List.length_cons]
    omega
theorem ch_get : ∀ {V : List (List Int)}, Ch V → ∀ i : Nat, i + 1 < V.length → geti (gets V (i : Nat)) 0 < geti (gets V ((i : Nat) + 1 : Int)) 0 ∧ geti (gets V ((i : Nat) + 1 : Int)) 1 < geti (gets V (i : Nat)) 1
  | [], _, i, h => by simp at h
  | [a], _, i, h => by simp at h
  | a :: b :: r, hc, i, h => by
    cases i with
    | zero => exact ⟨hc.1, hc.2.1⟩
    | succ i => exact ch_get hc.2.2 i (by simpa using h)

/-- What is known of vertices. -/
structure VOk (B : Int) (V : List (List Int)) : Prop where
  pos : 0 < V.length
  len : (V.length : Int) ≤ B + 1
  row : ∀ v ∈ V, v.length = 2 ∧ (0 ≤ geti v 0 ∧ geti v 0 ≤ B) ∧ (0 ≤ geti v 1 ∧ geti v 1 ≤ B)
  inc : ∀ i : Nat, i + 1 < V.length → geti (gets V (i : Nat)) 0 < geti (gets V ((i : Nat) + 1 : Int)) 0 ∧ geti (gets V ((i : Nat) + 1 : Int)) 1 < geti (gets V (i : Nat)) 1
theorem VOk.at {B : Int} {V : List (List Int)} (h : VOk B V) (i : Nat) (hi : i < V.length) : (gets V (i : Nat)).length = 2 ∧ (0 ≤ geti (gets V (i : Nat)) 0 ∧ geti (gets V (i : Nat)) 0 ≤ B) ∧ (0 ≤ geti (gets V (i : Nat)) 1 ∧ geti (gets V (i : Nat)) 1 ≤ B) :=
  h.row _ (gets_mem (by omega) (by omega))

theorem hasV_ok {xss V : List (List Int)} {B : Int} (hp : ∀ v ∈ xss, v.length = 2 ∧ (0 ≤ geti v 0 ∧ geti v 0 ≤ B) ∧ (0 ≤ geti v 1 ∧ geti v 1 ≤ B)) (h : HasV xss V) : VOk B V := by
  obtain ⟨m, r, rfl, h1, h2, h3⟩ := h
  have hc := gwf_chain h3 (fun q hq hy => by
    have := h2 q hq
    unfold Hl.lexle at this
    simp only [gX, gY] at *
    omega)
  have hrow : ∀ v ∈ m :: r, v.length = 2 ∧ (0 ≤ geti v 0 ∧ geti v 0 ≤ B) ∧ (0 ≤ geti v 1 ∧ geti v 1 ≤ B) := fun v hv => by
    rcases List.mem_cons.1 hv with rfl | hv
    · exact hp _ h1
    · exact hp _ (hc.2 v hv)
  refine ⟨by simp, ?_, hrow, ch_get hc.1⟩
  have := ch_len hc.1 (fun v hv => (hrow v hv).2.2.1)
  have := (hp m h1).2.2.2
  rw [List.length_cons]
  omega

/-! ### The vertices exist -/
theorem best_ex (xss : List (List Int)) (a : List Int) : ∀ i, i ≤ xss.length → ∃ o, BestOk xss a i o
  | 0, _ => ⟨none, fun q hq => by obtain ⟨j, hj, _⟩ := hq; omega⟩
  | i + 1, hi => by
    obtain ⟨o, ho⟩ := best_ex xss a i (by omega)
    have esp := sp_succ xss i
    cases o with
    | none =>
      by_cases hy : gY (gets xss (i : Nat)) < gY a
      · refine ⟨some i, hi, ?_⟩
        rw [← esp]
        exact Hl.next_first ho hy
      · refine ⟨none, ?_⟩
        simp only [BestOk, ← esp]
        rintro q (hq | rfl)
        · exact ho q hq
        · omega
    | some k =>
      obtain ⟨h1, h2⟩ := ho
      by_cases hy : gY (gets xss (i : Nat)) < gY a ∧ (Hl.cr gX gY a (gets xss (k : Nat)) (gets xss (i : Nat)) < 0 ∨ (Hl.cr gX gY a (gets xss (k : Nat)) (gets xss (i : Nat)) = 0 ∧ gY (gets xss (i : Nat)) < gY (gets xss (k : Nat))))
      · refine ⟨some i, hi, ?_⟩
        rw [← esp]
        exact Hl.next_new h2 hy.1 hy.2
      · refine ⟨some k, h1, ?_⟩
        rw [← esp]
        exact Hl.next_keep h2 fun hz => by omega
theorem sp_mem (xss : List (List Int)) : Sp xss xss.length = (· ∈ xss) := funext fun q => propext (sp_all xss q)
theorem chain_ex {xss : List (List Int)} (hp : ∀ r ∈ xss, 0 ≤ geti r 1) : ∀ (n : Nat) (a : List Int), a ∈ xss → geti a 1 ≤ n → ∃ l, Hl.GWf gX gY (· ∈ xss) (a :: l)
  | n, a, ha, hn => by
    obtain ⟨o, ho⟩ := best_ex xss a xss.length (Nat.le_refl _)
    cases o with
    | none => exact ⟨[], fun q hq => ho q ((sp_all xss q).2 hq)⟩
    | some k =>
      obtain ⟨h1, h2⟩ := ho
      rw [sp_mem] at h2
      have hlt := h2.2.1
      have hpos := hp _ h2.1
      simp only [gY] at hlt
      match n with
      | 0 => omega
      | n + 1 =>
        obtain ⟨l, hl⟩ := chain_ex hp n _ h2.1 (by omega)
        exact ⟨_ :: l, h2, hl⟩
theorem first_ex (xss : List (List Int)) : ∀ i, i < xss.length → ∃ m, m < xss.length ∧ ∀ q, Sp xss (i + 1) q → Hl.lexle gX gY (gets xss (m : Nat)) q
  | 0, h => ⟨0, h, fun q hq => by obtain ⟨j, hj, rfl⟩ := hq; obtain rfl : j = 0 := by omega
                                  unfold Hl.lexle; omega⟩
  | i + 1, h => by
    obtain ⟨m, h1, h2⟩ := first_ex xss i (by omega)
    rw [← sp_succ]
    by_cases hc : Hl.lexle gX gY (gets xss (m : Nat)) (gets xss ((i + 1 : Nat) : Int))
    · refine ⟨m, h1, ?_⟩
      rintro q (hq | rfl)
      · exact h2 q hq
      · exact hc
    · refine ⟨i + 1, h, ?_⟩
      rintro q (hq | rfl)
      · have := h2 q hq
        unfold Hl.lexle at *
        simp only [gX, gY] at *
        omega
      · unfold Hl.lexle; omega
theorem verts_ex {xss : List (List Int)} (h0 : 0 < xss.length) (hp : ∀ r ∈ xss, 0 ≤ geti r 1) : ∃ V, HasV xss V := by
  obtain ⟨m, h1, h2⟩ := first_ex xss (xss.length - 1) (by omega)
  rw [show xss.length - 1 + 1 = xss.length by omega, sp_mem] at h2
  have hm : gets xss (m : Nat) ∈ xss := gets_mem (by omega) (by omega)
  obtain ⟨l, hl⟩ := chain_ex hp (geti (gets xss (m : Nat)) 1).toNat _ hm (by have := hp _ hm; omega)
  exact ⟨_ :: l, _, _, rfl, hm, h2, hl⟩
theorem verts_ok {xss : List (List Int)} {B : Int} (h0 : 0 < xss.length) (hp : ∀ v ∈ xss, v.length = 2 ∧ (0 ≤ geti v 0 ∧ geti v 0 ≤ B) ∧ (0 ≤ geti v 1 ∧ geti v 1 ≤ B)) : VOk B (verts xss) := by
  obtain ⟨V, hV⟩ := verts_ex h0 (fun r hr => (hp r hr).2.2.1)
  rw [verts_eq (fun r hr => (hp r hr).1) hV]
  exact hasV_ok hp hV
theorem sup_rows {xss : List (List Int)} (h : isSup xss = true) : (0 < xss.length ∧ xss.length ≤ 200) ∧ ∀ v ∈ xss, v.length = 2 ∧ (0 ≤ geti v 0 ∧ geti v 0 ≤ 60) ∧ (0 ≤ geti v 1 ∧ geti v 1 ≤ 60) := by
  obtain ⟨h1, h2⟩ := isSup_of h
  refine ⟨by omega, fun v hv => ?_⟩
  obtain ⟨j, hj⟩ := List.getElem?_of_mem hv
  have hl := (List.getElem?_eq_some_iff.1 hj).1
  have := h2 j hl
  unfold SR at this
  have e : gets xss (j : Nat) = v := by simp [gets, hj]
  rw [e] at this
  exact this
theorem sup_pb {xss : List (List Int)} (h : isSup xss = true) : ∀ r ∈ xss, PB r := fun r hr => by
  have := (sup_rows h).2 r hr
  unfold PB; omega
theorem sup_ok {xss : List (List Int)} (h : isSup xss = true) : VOk 60 (verts xss) := verts_ok (sup_rows h).1.1 (sup_rows h).2

/-! ### Edges -/
def edL (V : List (List Int)) (n : Nat) : List (List Int) := (List.range n).map fun (k : Nat) => [geti (gets V ((k : Nat) + 1 : Int)) 0 - geti (gets V (k : Nat)) 0, geti (gets V (k : Nat)) 1 - geti (gets V ((k : Nat) + 1 : Int)) 1]
theorem edL_len (V : List (List Int)) (n : Nat) : (edL V n).length = n := by simp [edL]
theorem edL_succ (V : List (List Int)) (n : Nat) : edL V n ++ [[geti (gets V ((n : Nat) + 1 : Int)) 0 - geti (gets V (n : Nat)) 0, geti (gets V (n : Nat)) 1 - geti (gets V ((n : Nat) + 1 : Int)) 1]] = edL V (n + 1) := by simp [edL, List.range_succ]

theorem edgesBetween_c {B : Int} (hB : B ≤ 100000) (V : List (List Int)) (h : VOk B V) : AFn Try.prog 42 [.intss V] (IsIntss 38 2 (edL V (V.length - 1))) := by
  have hl := h.len
  have hp := h.pos
  (refine AFn.start Try.func42 Try.ntmps42 rfl (by kernel_rfl) fun hk => ?_; simp only [Env.start, enumF, List.length_cons, List.length_nil, Nat.reduceAdd, Nat.reduceSub, List.cons_append, List.nil_append])
  repeat' (first | (apply AOps.nil; try simp only [List.nil_append, List.cons_append, List.set_cons_zero, List.set_cons_succ, List.length_cons, List.length_nil, Nat.reduceAdd, AV.sh, AV.sh1, AV.sh0, AO.sh, List.map_cons, List.map_nil, Nat.zero_add, Nat.add_zero, setAll]) | (apply w_assign; exact rfl; exact rfl) | apply AWp.seq | apply AWp.region | apply AWp.block | ((apply w_bsr0); iterate 1 exact rfl))
  refine AWp.loop (ι := Nat) (fun i => ⟨45, [(0, .intss V), (3, .own 0), (4, .i (i + 1))]⟩) (fun i => [.sls 38 2 (edL V i)]) (fun i => i + 1 ≤ V.length) (fun i => V.length - i) 0 (by omega) ⟨lee rfl (by (repeat (first | exact le_nil | refine le_eq rfl rfl ?_))), by (repeat (first | exact lo_nil | refine lo_eq rfl ?_)), rfl, rfl⟩ ?_
  rintro i h0
  have e1 := edL_len V i
  by_cases hi : i + 1 < V.length
  · obtain ⟨p1, p2, p3⟩ := h.at i (by omega)
    obtain ⟨q1, q2, q3⟩ := h.at (i + 1) (by omega)
    have e2 := edL_succ V i
    have ei : (((i + 1 : Nat) : Nat) : Int) = (i : Int) + 1 := by omega
    rw [ei] at q1 q2 q3
    have ej : ((i : Int) + 1 - 1) = i := by omega
    have p1' := p1
    have p2' := p2
    have p3' := p3
    rw [← ej] at p1' p2' p3'
    have e2' : edL V i ++ [[geti (gets V ((i : Nat) + 1 : Int)) 0 - geti (gets V ((i : Int) + 1 - 1)) 0, geti (gets V ((i : Int) + 1 - 1)) 1 - geti (gets V ((i : Nat) + 1 : Int)) 1]] = edL V (i + 1) := by rw [ej]; exact e2
    repeat' (first | (apply AOps.nil; try simp only [List.nil_append, List.cons_append, List.set_cons_zero, List.set_cons_succ, List.length_cons, List.length_nil, Nat.reduceAdd, AV.sh, AV.sh1, AV.sh0, AO.sh, List.map_cons, List.map_nil, Nat.zero_add, Nat.add_zero, setAll]) | (apply w_move; exact rfl; exact rfl) | (apply w_assign; exact rfl; exact rfl) | apply AWp.seq | apply AWp.region | ((apply AWp.condP; exact rfl) <;> intro h) | apply AWp.block | apply AWp.ret | apply AWp.exit | apply AWp.skip | (apply w_len; exact rfl; exact rfl; first | exact .ints _ | exact .intss _ | exact .sli rfl | exact .sls rfl | exact .slr rfl | exact .orow rfl | exact .nil) | omega | ((apply w_lss); iterate 3 exact rfl))
    refine AWp.regionG [] (by kernel_rfl) (envC := ⟨45, [(0, .intss V), (3, .own 0), (4, .i (i + 1))]⟩) (osC := [.sls 38 2 (edL V i ++ [[geti (gets V ((i : Nat) + 1 : Int)) 0 - geti (gets V ((i : Int) + 1 - 1)) 0, geti (gets V ((i : Int) + 1 - 1)) 1 - geti (gets V ((i : Nat) + 1 : Int)) 1]])]) rfl rfl ?_ ?_
    · repeat' (first | (apply AOps.nil; try simp only [List.nil_append, List.cons_append, List.set_cons_zero, List.set_cons_succ, List.length_cons, List.length_nil, Nat.reduceAdd, AV.sh, AV.sh1, AV.sh0, AO.sh, List.map_cons, List.map_nil, Nat.zero_add, Nat.add_zero, setAll]) | (apply w_move; exact rfl; exact rfl) | (apply w_assign; exact rfl; exact rfl) | ((first | apply w_bsr1 | apply w_sub | apply w_idx | apply w_ld | apply w_bs2); iterate 3 exact rfl) | (apply w_appr; exact rfl; exact rfl; exact rfl; exact rfl; exact rfl; exact rfl; exact rfl; rotate_left 1; simp only [Env.mp, List.map_cons, List.map_nil, List.set_cons_zero, List.set_cons_succ, AV.kill, AV.kill1, AO.kill, AV.rin, AV.rin1, AV.noRow, AV.noRow1, AO.via, reduceIte, Nat.reduceEqDiff, Nat.reduceLT, Env.up, Nat.zero_ne_one, Nat.one_ne_zero, Nat.reduceAdd, List.cons_append, List.nil_append]; rotate_left 1) | apply AllOfG.nil | (apply AllOfG.consS; exact rfl; exact rfl) | (apply AAnyG.takeW; exact rfl; exact rfl; kernel_rfl; kernel_rfl) | (apply AAnyG.takeL; exact rfl; exact rfl; kernel_rfl) | (apply AAnyG.all; exact rfl) | (apply AAnyG.done; exact rfl) | omega | ((first | apply w_idxs | apply w_lds); iterate 3 exact rfl) | (apply inI_of <;> omega))
      all_goals (apply Or.inl; refine ⟨lee rfl ?_, ?_, rfl, rfl⟩; (focus ((repeat (first | exact le_nil | refine le_eq rfl rfl ?_)); done)); (focus ((repeat (first | exact lo_nil | refine lo_eq rfl ?_)); done)))
    repeat' (first | (apply AOps.nil; try simp only [List.nil_append, List.cons_append, List.set_cons_zero, List.set_cons_succ, List.length_cons, List.length_nil, Nat.reduceAdd, AV.sh, AV.sh1, AV.sh0, AO.sh, List.map_cons, List.map_nil, Nat.zero_add, Nat.add_zero, setAll]) | (apply w_move; exact rfl; exact rfl) | (apply w_assign; exact rfl; exact rfl) | apply AWp.region | ((apply w_add); iterate 3 exact rfl) | (apply inI_of <;> omega))
    exact ⟨i + 1, by omega, by omega, ⟨lee rfl (by (repeat (first | exact le_nil | refine le_eq rfl rfl ?_))), by (repeat (first | exact lo_nil | refine lo_eq (congrArg (AO.sls _ _) (e2')) ?_)), rfl, rfl⟩⟩
  · repeat' (first | (apply AOps.nil; try simp only [List.nil_append, List.cons_append, List.set_cons_zero, List.set_cons_succ, List.length_cons, List.length_nil, Nat.reduceAdd, AV.sh, AV.sh1, AV.sh0, AO.sh, List.map_cons, List.map_nil, Nat.zero_add, Nat.add_zero, setAll]) | (apply w_move; exact rfl; exact rfl) | (apply w_assign; exact rfl; exact rfl) | apply AWp.seq | apply AWp.region | ((apply AWp.condP; exact rfl) <;> intro h) | apply AWp.block | apply AWp.ret | apply AWp.exit | apply AWp.skip | (apply AWp.regionQ; kernel_rfl; kernel_rfl) | (apply w_len; exact rfl; exact rfl; first | exact .ints _ | exact .intss _ | exact .sli rfl | exact .sls rfl | exact .slr rfl | exact .orow rfl | exact .nil) | omega | ((apply w_lss); iterate 3 exact rfl))
    have e : i = V.length - 1 := by omega
    subst e
    exact ⟨_, _, _, .v1 Try.results42 rfl, .sls rfl, rfl, rfl⟩
theorem l15Edges_c {B : Int} (hB : B ≤ 100000) (V : List (List Int)) (h : VOk B V) : AFn Try.prog 43 [.intss V] (IsIntss 38 2 (edL V (V.length - 1))) := by
  have hl := h.len
  have hp := h.pos
  (refine AFn.start Try.func43 Try.ntmps43 rfl (by kernel_rfl) fun hk => ?_; simp only [Env.start, enumF, List.length_cons, List.length_nil, Nat.reduceAdd, Nat.reduceSub, List.cons_append, List.nil_append])
  repeat' (first | (apply AOps.nil; try simp only [List.nil_append, List.cons_append, List.set_cons_zero, List.set_cons_succ, List.length_cons, List.length_nil, Nat.reduceAdd, AV.sh, AV.sh1, AV.sh0, AO.sh, List.map_cons, List.map_nil, Nat.zero_add, Nat.add_zero, setAll]) | (apply w_assign; exact rfl; exact rfl) | apply AWp.seq | apply AWp.region | apply AWp.block | ((apply w_bsr0); iterate 1 exact rfl))
  refine AWp.loop (ι := Nat) (fun i => ⟨45, [(0, .intss V), (3, .own 0), (4, .i (i + 1))]⟩) (fun i => [.sls 38 2 (edL V i)]) (fun i => i + 1 ≤ V.length) (fun i => V.length - i) 0 (by omega) ⟨lee rfl (by (repeat (first | exact le_nil | refine le_eq rfl rfl ?_))), by (repeat (first | exact lo_nil | refine lo_eq rfl ?_)), rfl, rfl⟩ ?_
  rintro i h0
  have e1 := edL_len V i
  by_cases hi : i + 1 < V.length
  · obtain ⟨p1, p2, p3⟩ := h.at i (by omega)
    obtain ⟨q1, q2, q3⟩ := h.at (i + 1) (by omega)
    have e2 := edL_succ V i
    have ei : (((i + 1 : Nat) : Nat) : Int) = (i : Int) + 1 := by omega
    rw [ei] at q1 q2 q3
    have ej : ((i : Int) + 1 - 1) = i := by omega
    have p1' := p1
    have p2' := p2
    have p3' := p3
    rw [← ej] at p1' p2' p3'
    have e2' : edL V i ++ [[geti (gets V ((i : Nat) + 1 : Int)) 0 - geti (gets V ((i : Int) + 1 - 1)) 0, geti (gets V ((i : Int) + 1 - 1)) 1 - geti (gets V ((i : Nat) + 1 : Int)) 1]] = edL V (i + 1) := by rw [ej]; exact e2
    repeat' (first | (apply AOps.nil; try simp only [List.nil_append, List.cons_append, List.set_cons_zero, List.set_cons_succ, List.length_cons, List.length_nil, Nat.reduceAdd, AV.sh, AV.sh1, AV.sh0, AO.sh, List.map_cons, List.map_nil, Nat.zero_add, Nat.add_zero, setAll]) | (apply w_move; exact rfl; exact rfl) | (apply w_assign; exact rfl; exact rfl) | apply AWp.seq | apply AWp.region | ((apply AWp.condP; exact rfl) <;> intro h) | apply AWp.block | apply AWp.ret | apply AWp.exit | apply AWp.skip | (apply w_len; exact rfl; exact rfl; first | exact .ints _ | exact .intss _ | exact .sli rfl | exact .sls rfl | exact .slr rfl | exact .orow rfl | exact .nil) | omega | ((apply w_lss); iterate 3 exact rfl))
    refine AWp.regionG [] (by kernel_rfl) (envC := ⟨45, [(0, .intss V), (3, .own 0), (4, .i (i + 1))]⟩) (osC := [.sls 38 2 (edL V i ++ [[geti (gets V ((i : Nat) + 1 : Int)) 0 - geti (gets V ((i : Int) + 1 - 1)) 0, geti (gets V ((i : Int) + 1 - 1)) 1 - geti (gets V ((i : Nat) + 1 : Int)) 1]])]) rfl rfl ?_ ?_
    · repeat' (first | (apply AOps.nil; try simp only [List.nil_append, List.cons_append, List.set_cons_zero, List.set_cons_succ, List.length_cons, List.length_nil, Nat.reduceAdd, AV.sh, AV.sh1, AV.sh0, AO.sh, List.map_cons, List.map_nil, Nat.zero_add, Nat.add_zero, setAll]) | (apply w_move; exact rfl; exact rfl) | (apply w_assign; exact rfl; exact rfl) | ((first | apply w_bsr1 | apply w_sub | apply w_idx | apply w_ld | apply w_bs2); iterate 3 exact rfl) | (apply w_appr; exact rfl; exact rfl; exact rfl; exact rfl; exact rfl; exact rfl; exact rfl; rotate_left 1; simp only [Env.mp, List.map_cons, List.map_nil, List.set_cons_zero, List.set_cons_succ, AV.kill, AV.kill1, AO.kill, AV.rin, AV.rin1, AV.noRow, AV.noRow1, AO.via, reduceIte, Nat.reduceEqDiff, Nat.reduceLT, Env.up, Nat.zero_ne_one, Nat.one_ne_zero, Nat.reduceAdd, List.cons_append, List.nil_append]; rotate_left 1) | apply AllOfG.nil | (apply AllOfG.consS; exact rfl; exact rfl) | (apply AAnyG.takeW; exact rfl; exact rfl; kernel_rfl; kernel_rfl) | (apply AAnyG.takeL; exact rfl; exact rfl; kernel_rfl) | (apply AAnyG.all; exact rfl) | (apply AAnyG.done; exact rfl) | omega | ((first | apply w_idxs | apply w_lds); iterate 3 exact rfl) | (apply inI_of <;> omega))
      all_goals (apply Or.inl; refine ⟨lee rfl ?_, ?_, rfl, rfl⟩; (focus ((repeat (first | exact le_nil | refine le_eq rfl rfl ?_)); done)); (focus ((repeat (first | exact lo_nil | refine lo_eq rfl ?_)); done)))
    repeat' (first | (apply AOps.nil; try simp only [List.nil_append, List.cons_append, List.set_cons_zero, List.set_cons_succ, List.length_cons, List.length_nil, Nat.reduceAdd, AV.sh, AV.sh1, AV.sh0, AO.sh, List.map_cons, List.map_nil, Nat.zero_add, Nat.add_zero, setAll]) | (apply w_move; exact rfl; exact rfl) | (apply w_assign; exact rfl; exact rfl) | apply AWp.region | ((apply w_add); iterate 3 exact rfl) | (apply inI_of <;> omega))
    exact ⟨i + 1, by omega, by omega, ⟨lee rfl (by (repeat (first | exact le_nil | refine le_eq rfl rfl ?_))), by (repeat (first | exact lo_nil | refine lo_eq (congrArg (AO.sls _ _) (e2')) ?_)), rfl, rfl⟩⟩
  · repeat' (first | (apply AOps.nil; try simp only [List.nil_append, List.cons_append, List.set_cons_zero, List.set_cons_succ, List.length_cons, List.length_nil, Nat.reduceAdd, AV.sh, AV.sh1, AV.sh0, AO.sh, List.map_cons, List.map_nil, Nat.zero_add, Nat.add_zero, setAll]) | (apply w_move; exact rfl; exact rfl) | (apply w_assign; exact rfl; exact rfl) | apply AWp.seq | apply AWp.region | ((apply AWp.condP; exact rfl) <;> intro h) | apply AWp.block | apply AWp.ret | apply AWp.exit | apply AWp.skip | (apply AWp.regionQ; kernel_rfl; kernel_rfl) | (apply w_len; exact rfl; exact rfl; first | exact .ints _ | exact .intss _ | exact .sli rfl | exact .sls rfl | exact .slr rfl | exact .orow rfl | exact .nil) | omega | ((apply w_lss); iterate 3 exact rfl))
    have e : i = V.length - 1 := by omega
    subst e
    exact ⟨_, _, _, .v1 Try.results43 rfl, .sls rfl, rfl, rfl⟩

/-! ### Convenient polygons -/
def conv (V : List (List Int)) : Bool := decide (geti (gets V 0) 0 = 0 ∧ geti (gets V ((V.length : Int) - 1)) 1 = 0)
theorem isConvenient_c {B : Int} (V : List (List Int)) (h : VOk B V) : AFnV Try.prog 51 [.intss V] (.bool (conv V)) := by
  have hp := h.pos
  obtain ⟨p1, p2, p3⟩ := h.at 0 hp
  obtain ⟨q1, q2, q3⟩ := h.at (V.length - 1) (by omega)
  rw [show (((V.length - 1 : Nat) : Nat) : Int) = (V.length : Int) - 1 by omega] at q1 q2 q3
  simp only [Int.natCast_zero] at p1 p2 p3
  (refine AFnV.start Try.func51 Try.ntmps51 rfl (by kernel_rfl) fun hk0 => ?_; simp only [Env.start, enumF, List.length_cons, List.length_nil, Nat.reduceAdd, Nat.reduceSub, List.cons_append, List.nil_append])
  obtain ⟨hk, hl⟩ : ArgOk (.intss V) := hk0 _ (by simp)
  repeat' (first | (apply AOps.nil; try simp only [List.nil_append, List.cons_append, List.set_cons_zero, List.set_cons_succ, List.length_cons, List.length_nil, Nat.reduceAdd, AV.sh, AV.sh1, AV.sh0, AO.sh, List.map_cons, List.map_nil, Nat.zero_add, Nat.add_zero, setAll]) | ((apply AOps.splitP; exact rfl; exact rfl) <;> intro h) | (apply w_move; exact rfl; exact rfl) | (apply w_assign; exact rfl; exact rfl) | apply AWp.seq | apply AWp.region | apply AWp.ret | (apply w_skip; exact rfl) | (apply w_pickT; exact rfl; exact rfl; exact rfl) | (apply w_pickF; exact rfl; exact rfl; exact rfl) | (apply w_len; exact rfl; exact rfl; first | exact .ints _ | exact .intss _ | exact .sli rfl | exact .sls rfl | exact .slr rfl | exact .orow rfl | exact .nil) | ((first | apply w_eql | apply w_sub | apply w_idx | apply w_ld); iterate 3 exact rfl) | ((first | apply w_idxs | apply w_lds); iterate 3 exact rfl) | (apply inI_of <;> omega) | omega)
  all_goals
    refine .bool Try.results51 rfl ?_
    unfold conv
    simp
    try omega
/-! ### Areas -/
section
variable {B : Int} {V : List (List Int)}
end

end Go.Proofs.Ythlfdhooiekgjaa
/-
  The hull of all sums of the vertices of two hulls is the chain of all their edges, put together. No condition.
-/
namespace Go.Proofs.Ythlfdhooiekgjaa
open Go Go.RowKit

/-! ### A hull is the chain of its edges, which are in order -/
theorem edL_gD (V : List (List Int)) (n k : Nat) (h : k < n) : (edL V n).getD k [] = [geti (V.getD (k + 1) []) 0 - geti (V.getD k []) 0, geti (V.getD k []) 1 - geti (V.getD (k + 1) []) 1] := by
  have e1 : gets V (k : Nat) = V.getD k [] := by simp [gets, List.getD_eq_getElem?_getD]
  have e2 : gets V ((k : Nat) + 1 : Int) = V.getD (k + 1) [] := by
    rw [show ((k : Nat) + 1 : Int) = ((k + 1 : Nat) : Int) by omega]
    simp only [gets, Int.toNat_natCast, List.getD_eq_getElem?_getD]
  unfold edL
  rw [List.getD_eq_getElem?_getD, List.getElem?_map, List.getElem?_range h, ← e1, ← e2]; rfl
theorem vf_ed {V : List (List Int)} (hr : ∀ v ∈ V, v.length = 2) (h0 : 0 < V.length) : vfP (V.getD 0 []) (edL V (V.length - 1)) = V := by
  have key : ∀ n, n < V.length → (vfP (V.getD 0 []) (edL V (V.length - 1))).getD n [] = V.getD n [] := by
    intro n
    induction n with
    | zero => intro _; exact vfP_0 _ _
    | succ n ih =>
      intro h
      rw [vfP_succ _ _ _ (by rw [edL_len]; omega), ih (by omega), edL_gD _ _ _ (by omega)]
      have hn : (V.getD (n + 1) []).length = 2 := hr _ (by rw [List.getD_eq_getElem?_getD, List.getElem?_eq_getElem h]; exact List.getElem_mem _)
      refine row2_ext rfl hn ?_ ?_
      · show geti (V.getD n []) 0 + (geti (V.getD (n + 1) []) 0 - geti (V.getD n []) 0) = _; omega
      · show geti (V.getD n []) 1 - (geti (V.getD n []) 1 - geti (V.getD (n + 1) []) 1) = _; omega
  have hl : (vfP (V.getD 0 []) (edL V (V.length - 1))).length = V.length := by rw [vfP_len, edL_len]; omega
  apply List.ext_getElem hl
  intro n h1 h2
  have := key n h2
  rw [List.getD_eq_getElem?_getD (l := vfP _ _), List.getElem?_eq_getElem h1, List.getD_eq_getElem?_getD (i := n), List.getElem?_eq_getElem h2] at this
  exact this
theorem ed_row {V : List (List Int)} {B : Int} (h : VOk B V) {e : List Int} (he : e ∈ edL V (V.length - 1)) : e.length = 2 ∧ (1 ≤ geti e 0 ∧ geti e 0 ≤ B) ∧ (1 ≤ geti e 1 ∧ geti e 1 ≤ B) := by
  unfold edL at he
  obtain ⟨k, hk, rfl⟩ := List.mem_map.1 he
  have hk := List.mem_range.1 hk
  obtain ⟨i1, i2⟩ := h.inc k (by omega)
  obtain ⟨p1, p2, p3⟩ := h.at k (by omega)
  obtain ⟨q1, q2, q3⟩ := h.at (k + 1) (by omega)
  rw [show (((k + 1 : Nat) : Nat) : Int) = (k : Int) + 1 by omega] at q1 q2 q3
  refine ⟨rfl, ?_, ?_⟩
  · show 1 ≤ geti (gets V ((k : Nat) + 1 : Int)) 0 - geti (gets V (k : Nat)) 0 ∧ _ ≤ B
    refine ⟨by omega, ?_⟩
    show geti (gets V ((k : Nat) + 1 : Int)) 0 - geti (gets V (k : Nat)) 0 ≤ B
    omega
  · show 1 ≤ geti (gets V (k : Nat)) 1 - geti (gets V ((k : Nat) + 1 : Int)) 1 ∧ _ ≤ B
    refine ⟨by omega, ?_⟩
    show geti (gets V (k : Nat)) 1 - geti (gets V ((k : Nat) + 1 : Int)) 1 ≤ B
    omega
/-- Consecutive corners turn. -/
theorem gwf_turn {S : List Int → Prop} : ∀ {V : List (List Int)}, Hl.GWf gX gY S V → ∀ n, n + 2 < V.length → 0 < Hl.cr gX gY (V.getD n []) (V.getD (n + 1) []) (V.getD (n + 2) [])
  | [], _, n, h => by simp at h
  | [a], _, n, h => by simp at h
  | [a, b], _, n, h => by simp at h; omega
  | a :: b :: c :: r, hg, 0, _ => by
    obtain ⟨⟨h1, h2, h3⟩, ⟨h4, h5, _⟩, _⟩ := hg
    have := h3 c h4 (by omega)
    show 0 < Hl.cr gX gY a b c
    rcases Int.lt_or_eq_of_le this.1 with h | h
    · exact h
    · have := this.2 h.symm; omega
  | a :: b :: c :: r, hg, n + 1, h => gwf_turn (V := b :: c :: r) hg.2 n (by simpa using h)
theorem pair_chain {R : List Int → List Int → Prop} : ∀ {L : List (List Int)}, (∀ a b c, a ∈ L → b ∈ L → c ∈ L → R a b → R b c → R a c) → (∀ n, n + 1 < L.length → R (L.getD n []) (L.getD (n + 1) [])) → L.Pairwise R
  | [], _, _ => List.Pairwise.nil
  | [a], _, _ => by simp
  | a :: b :: L, ht, hc => by
    have ih : (b :: L).Pairwise R := pair_chain (fun x y z hx hy hz => ht x y z (by simp [hx]) (by simp [hy]) (by simp [hz])) fun n hn => hc (n + 1) (by simpa using hn)
    have hab : R a b := hc 0 (by simp)
    refine List.pairwise_cons.2 ⟨fun x hx => ?_, ih⟩
    rcases List.mem_cons.1 hx with rfl | hx
    · exact hab
    · exact ht a b x (by simp) (by simp) (by simp [hx]) hab ((List.pairwise_cons.1 ih).1 x hx)
theorem ed_stS {xss V : List (List Int)} {B : Int} (hV : HasV xss V) (h : VOk B V) : StS (edL V (V.length - 1)) := by
  have hp : ∀ e ∈ edL V (V.length - 1), 1 ≤ geti e 1 := fun e he => (ed_row h he).2.2.1
  refine pair_chain (fun a b c ha hb hc h1 h2 => wS_le (hp a ha) (hp b hb) (hp c hc) h1 h2) fun n hn => ?_
  rw [edL_len] at hn
  obtain ⟨m, r, e, _, _, hg⟩ := hV
  have := gwf_turn hg n (by rw [← e]; omega)
  rw [← e] at this
  rw [edL_gD _ _ _ (by omega), edL_gD _ _ _ (by omega)]
  generalize V.getD n [] = a at *
  generalize V.getD (n + 1) [] = b at *
  generalize V.getD (n + 1 + 1) [] = c at *
  have e2 : wS [geti b 0 - geti a 0, geti a 1 - geti b 1] [geti c 0 - geti b 0, geti b 1 - geti c 1] = Hl.cr gX gY a b c := by
    unfold wS Hl.cr
    show (geti a 1 - geti b 1) * (geti c 0 - geti b 0) - (geti b 0 - geti a 0) * (geti b 1 - geti c 1) = _
    simp only [gX, gY]
    grind
  rw [e2]
  omega

end Go.Proofs.Ythlfdhooiekgjaa
/-
  The stable sort of the library: plain laws of its exchanges, turnings and merges. No condition.
-/
namespace Go.Proofs.Ythlfdhooiekgjaa.Stb
open Go.Sort
variable {α : Type}

def swF (a b n : Nat) (f : Nat → α) (k : Nat) : α := if a ≤ k ∧ k < a + n then f (k - a + b) else if b ≤ k ∧ k < b + n then f (k - b + a) else f k
def rtF (a m b : Nat) (f : Nat → α) (k : Nat) : α := if a ≤ k ∧ k < a + (b - m) then f (k + (m - a)) else if a + (b - m) ≤ k ∧ k < b then f (k - (b - m)) else f k
theorem rt_gt {m i j : Nat} (f : Nat → α) (h1 : j < i) (h2 : i ≤ m) : rtF (m - (i - j)) m (m + j) (swF (m - i) m j f) = rtF (m - i) m (m + j) f := by
  funext k
  simp only [rtF, swF]
  (repeat' split) <;> first | (exfalso; omega) | (congr 1; omega) | rfl
theorem rt_lt {m i j : Nat} (f : Nat → α) (h1 : i < j) (h2 : i ≤ m) : rtF (m - i) m (m + (j - i)) (swF (m - i) (m + j - i) i f) = rtF (m - i) m (m + j) f := by
  funext k
  simp only [rtF, swF]
  (repeat' split) <;> first | (exfalso; omega) | (congr 1; omega) | rfl
theorem rt_eq {m i : Nat} (f : Nat → α) (h2 : i ≤ m) : swF (m - i) m i f = rtF (m - i) m (m + i) f := by
  funext k
  simp only [rtF, swF]
  (repeat' split) <;> first | (exfalso; omega) | (congr 1; omega) | rfl
theorem rt_id1 {a b : Nat} (f : Nat → α) : rtF a a b f = f := by
  funext k
  simp only [rtF]
  (repeat' split) <;> first | (exfalso; omega) | (congr 1; omega) | rfl
theorem rt_id2 {a m : Nat} (f : Nat → α) : rtF a m m f = f := by
  funext k
  simp only [rtF]
  (repeat' split) <;> first | (exfalso; omega) | (congr 1; omega) | rfl

theorem sw_zero {a b : Nat} (f : Nat → α) : swF a b 0 f = f := by
  funext k
  simp only [swF]
  (repeat' split) <;> first | (exfalso; omega) | rfl
/-! ### Order -/
variable {lt : α → α → Bool}
def Sd (lt : α → α → Bool) (a b : Nat) (f : Nat → α) : Prop := ∀ i j, a ≤ i → i < j → j < b → lt (f j) (f i) = false
theorem asym (hS : SWO lt) {x y : α} (h : lt x y = true) : lt y x = false := by
  cases e : lt y x with
  | false => rfl
  | true => have := hS.trans _ _ _ h e; rw [hS.irrefl] at this; cases this
theorem sd_le {a b : Nat} {f : Nat → α} (hS : SWO lt) (h : Sd lt a b f) {i j : Nat} (h1 : a ≤ i) (h2 : i ≤ j) (h3 : j < b) : lt (f j) (f i) = false := by
  by_cases e : i = j
  · subst e; exact hS.irrefl _
  · exact h i j h1 (by omega) h3

theorem one_left (hS : SWO lt) {a b i : Nat} {f : Nat → α} (h2 : Sd lt (a + 1) b f) (hi : a + 1 ≤ i ∧ i ≤ b) (p1 : a + 1 < i → lt (f (i - 1)) (f a) = true) (p2 : i < b → lt (f i) (f a) = false) : Sd lt a b (rtF a (a + 1) i f) := by
  intro p q hp hpq hq
  simp only [rtF]
  by_cases q1 : q < i - 1
  · rw [if_pos (by omega), if_pos (by omega)]
    exact h2 _ _ (by omega) (by omega) (by omega)
  · by_cases q2 : q = i - 1
    · rw [if_neg (by omega), if_pos (by omega), if_pos (by omega)]
      have e : q - (i - (a + 1)) = a := by omega
      rw [e]
      refine hS.ntrans _ (f (i - 1)) _ (asym hS (p1 (by omega))) ?_
      exact sd_le hS h2 (by omega) (by omega) (by omega)
    · rw [if_neg (by omega), if_neg (by omega)]
      by_cases c1 : p < i - 1
      · rw [if_pos (by omega)]
        exact h2 _ _ (by omega) (by omega) (by omega)
      · rw [if_neg (by omega)]
        by_cases c2 : p = i - 1
        · rw [if_pos (by omega)]
          have e : p - (i - (a + 1)) = a := by omega
          rw [e]
          exact hS.ntrans _ (f i) _ (sd_le hS h2 (by omega) (by omega) (by omega)) (p2 (by omega))
        · rw [if_neg (by omega)]
          exact h2 _ _ (by omega) (by omega) (by omega)
theorem one_right (hS : SWO lt) {a m i : Nat} {f : Nat → α} (h1 : Sd lt a m f) (hi : a ≤ i ∧ i ≤ m) (p1 : a < i → lt (f m) (f (i - 1)) = false) (p2 : i < m → lt (f m) (f i) = true) : Sd lt a (m + 1) (rtF i m (m + 1) f) := by
  intro p q hp hpq hq
  simp only [rtF]
  by_cases q1 : q < i
  · rw [if_neg (by omega), if_neg (by omega), if_neg (by omega), if_neg (by omega)]
    exact h1 _ _ (by omega) (by omega) (by omega)
  · by_cases q2 : q = i
    · rw [if_pos (by omega), if_neg (by omega), if_neg (by omega)]
      have e : q + (m - i) = m := by omega
      rw [e]
      refine hS.ntrans _ (f (i - 1)) _ (p1 (by omega)) ?_
      exact sd_le hS h1 (by omega) (by omega) (by omega)
    · rw [if_neg (by omega), if_pos (by omega)]
      by_cases c1 : p < i
      · rw [if_neg (by omega), if_neg (by omega)]
        exact h1 _ _ (by omega) (by omega) (by omega)
      · by_cases c2 : p = i
        · rw [if_pos (by omega)]
          have e : p + (m - i) = m := by omega
          rw [e]
          exact hS.ntrans _ (f i) _ (sd_le hS h1 (by omega) (by omega) (by omega)) (asym hS (p2 (by omega)))
        · rw [if_neg (by omega), if_pos (by omega)]
          exact h1 _ _ (by omega) (by omega) (by omega)

/-- The places where both parts are cut. -/
structure Cut (lt : α → α → Bool) (f : Nat → α) (a m b s e : Nat) : Prop where
  am : a < m ∧ m < b
  sa : a ≤ s ∧ s ≤ m
  me : m ≤ e ∧ e ≤ b
  len : s + (e - m) = (a + b) / 2
  p1 : a < s → e < b → lt (f e) (f (s - 1)) = false
  p2 : s < m → m < e → lt (f (e - 1)) (f s) = true
theorem Cut.cross (hS : SWO lt) {f : Nat → α} {a m b s e : Nat} (h : Cut lt f a m b s e) (h1 : Sd lt a m f) (h2 : Sd lt m b f) :
    Sd lt a s (rtF s m e f) ∧ Sd lt s ((a + b) / 2) (rtF s m e f) ∧ Sd lt ((a + b) / 2) e (rtF s m e f) ∧ Sd lt e b (rtF s m e f) ∧ ∀ x y, a ≤ x → x < (a + b) / 2 → (a + b) / 2 ≤ y → y < b → lt (rtF s m e f y) (rtF s m e f x) = false := by
  obtain ⟨⟨am, mb⟩, ⟨as1, sm⟩, ⟨me, eb⟩, len, p1, p2⟩ := h
  refine ⟨?_, ?_, ?_, ?_, ?_⟩
  · intro p q hp hpq hq
    simp only [rtF]
    rw [if_neg (by omega), if_neg (by omega), if_neg (by omega), if_neg (by omega)]
    exact h1 _ _ (by omega) (by omega) (by omega)
  · intro p q hp hpq hq
    simp only [rtF]
    rw [if_pos (by omega), if_pos (by omega)]
    exact h2 _ _ (by omega) (by omega) (by omega)
  · intro p q hp hpq hq
    simp only [rtF]
    rw [if_neg (by omega), if_pos (by omega), if_neg (by omega), if_pos (by omega)]
    exact h1 _ _ (by omega) (by omega) (by omega)
  · intro p q hp hpq hq
    simp only [rtF]
    rw [if_neg (by omega), if_neg (by omega), if_neg (by omega), if_neg (by omega)]
    exact h2 _ _ (by omega) (by omega) (by omega)
  · intro x y hx1 hx2 hy1 hy2
    simp only [rtF]
    by_cases cx : x < s
    · rw [if_neg (show ¬ (s ≤ x ∧ x < s + (e - m)) by omega), if_neg (show ¬ (s + (e - m) ≤ x ∧ x < e) by omega)]
      rw [if_neg (show ¬ (s ≤ y ∧ y < s + (e - m)) by omega)]
      by_cases cy : y < e
      · rw [if_pos (by omega)]
        exact h1 _ _ (by omega) (by omega) (by omega)
      · rw [if_neg (by omega)]
        refine hS.ntrans _ (f (s - 1)) _ (hS.ntrans _ (f e) _ ?_ (p1 (by omega) (by omega))) ?_
        · exact sd_le hS h2 (by omega) (by omega) (by omega)
        · exact sd_le hS h1 (by omega) (by omega) (by omega)
    · rw [if_pos (show s ≤ x ∧ x < s + (e - m) by omega), if_neg (show ¬ (s ≤ y ∧ y < s + (e - m)) by omega)]
      by_cases cy : y < e
      · rw [if_pos (by omega)]
        have hp := asym hS (p2 (by omega) (by omega))
        refine hS.ntrans _ (f (e - 1)) _ (hS.ntrans _ (f s) _ ?_ hp) ?_
        · exact sd_le hS h1 (by omega) (by omega) (by omega)
        · exact sd_le hS h2 (by omega) (by omega) (by omega)
      · rw [if_neg (by omega)]
        exact h2 _ _ (by omega) (by omega) (by omega)
/-! ### Arrays -/
variable [Inhabited α]
theorem swp_at (d : Array α) {i j : Nat} (hi : i < d.size) (hj : j < d.size) (k : Nat) : (swp d i j)[k]! = if k = i then d[j]! else if k = j then d[i]! else d[k]! := by
  by_cases h : k = i
  · subst h
    rw [if_pos rfl]
    by_cases e : k = j
    · subst e; rw [swp_right d k k hi]
    · exact swp_left d k j hi e
  · rw [if_neg h]
    by_cases e : k = j
    · subst e; rw [if_pos rfl, swp_right d i k hj]
    · rw [if_neg e, swp_other d i j k h e]
/-- What an array reads as. -/
def Is (d : Array α) (f : Nat → α) : Prop := ∀ k, d[k]! = f k
theorem sw_step {d : Array α} {f : Nat → α} {a b i n : Nat} (h : Is d (swF a b i f)) (hi : i < n) (hab : a + n ≤ b) (hb : b + n ≤ d.size) : Is (swp d (a + i) (b + i)) (swF a b (i + 1) f) := by
  intro k
  rw [swp_at d (by omega) (by omega), h, h, h]
  simp only [swF]
  (repeat' split) <;> first | (exfalso; omega) | (congr 1; omega) | rfl
theorem rot_up {d : Array α} {f : Nat → α} {a k : Nat} (h : Is d (rtF a (a + 1) (k + 1) f)) (ha : a ≤ k) (hk : k + 1 < d.size) : Is (swp d k (k + 1)) (rtF a (a + 1) (k + 2) f) := by
  intro c
  rw [swp_at d (by omega) (by omega), h, h, h]
  simp only [rtF]
  (repeat' split) <;> first | (exfalso; omega) | (congr 1; omega) | rfl
theorem rot_dn {d : Array α} {f : Nat → α} {m k : Nat} (h : Is d (rtF (k + 1) m (m + 1) f)) (ha : k + 1 ≤ m) (hk : m < d.size) : Is (swp d (k + 1) k) (rtF k m (m + 1) f) := by
  intro c
  rw [swp_at d (by omega) (by omega), h, h, h]
  simp only [rtF]
  (repeat' split) <;> first | (exfalso; omega) | (congr 1; omega) | rfl

theorem sd_of {a b : Nat} {d : Array α} {f : Nat → α} (h : Is d f) : SortedIn lt a b d ↔ Sd lt a b f := by
  unfold SortedIn Sd
  constructor
  · intro hs i j h1 h2 h3; rw [← h, ← h]; exact hs i j h1 h2 h3
  · intro hs i j h1 h2 h3; rw [h, h]; exact hs i j h1 h2 h3
end Go.Proofs.Ythlfdhooiekgjaa.Stb
/-
  The stable sort of the library: exchanges of ranges and turnings, walked. No condition.
-/
set_option linter.unusedSimpArgs false
set_option linter.unusedVariables false
namespace Go.Proofs.Ythlfdhooiekgjaa
open Go Go.RowKit Go.Lib Go.Sort Go.Shelf
variable {α : Type} [Inhabited α]

set_option maxHeartbeats 16000000 in
set_option maxRecDepth 1000000 in
theorem swapRange_s (enc : α → Value) (g : Nat) (cb : Array Value) (blk off cap a b n : Nat) (d0 d : Array α) (w0 w : World) (R : Row1 enc w0 blk off d0) (hs : d0.size = d.size) (S : SW enc w0 blk off d w) (hab : a + n ≤ b) (hb : b + n ≤ d.size) (hsz : d.size < 4611686018427387904) :
    Calls Try.prog 101 #[.slice (some ⟨blk, off, none⟩) d.size cap, .int .i64 a, .int .i64 b, .int .i64 n, .func (.func g) #[] cb] w fun e w' => e = .returned (.tuple #[]) ∧ ∃ d', d'.size = d.size ∧ PermIn a (b + n) d d' ∧ Stb.Is d' (Stb.swF a b n (fun k => d[k]!)) ∧ SW enc w0 blk off d' w' := by
  have hcl0 := R.hO.cells
  simp only [Value.cells] at hcl0
  have hst := R.hO.store Try.prog
  have mixed : Try.prog.follows Departure.mixedOrders = true := by kernel_rfl
  have S0 : Aside (SW enc w0 blk off d w) := S
  clear S
  go_enter Try.func101, Try.ntmps101
  go_wp2
  go_loopg [10] n (fun g1 vi wr => ∃ (i : Nat) (dk : Array α), vi = .int .i64 i ∧ i ≤ n ∧ n - i ≤ g1 ∧ dk.size = d.size ∧ Aside (SW enc w0 blk off dk wr) ∧ Hid (PermIn a (b + n) d dk ∧ Stb.Is dk (Stb.swF a b i (fun k => d[k]!))))
  case atStart => exact ⟨0, d, by go_num, by omega, by omega, rfl, S0, (show Hid _ from ⟨permIn_refl _ _ _, fun k => by rw [Stb.sw_zero]⟩)⟩
  case round =>
    clear S0
    obtain ⟨i, dk, rfl, hi, hg1, hsk, S1, HO⟩ := hrel
    by_cases hlt : i < n
    · have hltz : (i : Int) < (n : Int) := by omega
      go_wp2
      obtain ⟨iN, hiN⟩ : ∃ q, q = a + i := ⟨_, rfl⟩
      obtain ⟨jN, hjN⟩ : ∃ q, q = b + i := ⟨_, rfl⟩
      have ea : ((a : Int) + (i : Int)).toNat = iN := by omega
      have pa : (0 : Int) ≤ (a : Int) + (i : Int) := by omega
      have ba : (a : Int) + (i : Int) < (d.size : Int) := by omega
      have ra : IntKind.i64.wrap ((a : Int) + (i : Int)) = (a : Int) + (i : Int) := by rw [IntKind.wrap_i64]; omega
      have ec : ((b : Int) + (i : Int)).toNat = jN := by omega
      have pc : (0 : Int) ≤ (b : Int) + (i : Int) := by omega
      have bc : (b : Int) + (i : Int) < (d.size : Int) := by omega
      have rc : IntKind.i64.wrap ((b : Int) + (i : Int)) = (b : Int) + (i : Int) := by rw [IntKind.wrap_i64]; omega
      obtain ⟨x, hx⟩ : ∃ x, x = dk[a + i]! := ⟨_, rfl⟩
      obtain ⟨y, hy⟩ : ∃ x, x = dk[b + i]! := ⟨_, rfl⟩
      have S3 : Aside (SW enc w0 blk off (swp dk (a + i) (b + i)) ((wr.setCell ⟨blk, off + iN, none⟩ (enc y)).setCell ⟨blk, off + jN, none⟩ (enc x)).drew) := by rw [hiN, hjN, hx, hy]; exact S1.out.swapped R (a + i) (b + i) (by omega) (by omega)
      have ca := S1.out.c1 R (by omega) (a + i) (by omega)
      have cb' := S1.out.c1 R (by omega) (b + i) (by omega)
      have fa := S1.out.f1 R (by omega) (a + i) (by omega)
      have fb := S1.out.f1 R (by omega) (b + i) (by omega)
      obtain ⟨u, cc⟩ := S1.out.c2 R (by omega) (a + i) (b + i) (by omega) (by omega) (enc y)
      have HO2 : Hid (PermIn a (b + n) d (swp dk (a + i) (b + i)) ∧ Stb.Is (swp dk (a + i) (b + i)) (Stb.swF a b (i + 1) (fun k => d[k]!))) :=
        (show Hid _ from ⟨permIn_trans _ _ _ _ _ HO.out.1 (swp_permIn _ _ _ _ _ (by omega) (by omega) (by omega) (by omega) (by omega)), Stb.sw_step HO.out.2 hlt hab (by omega)⟩)
      rw [← hjN, ← hiN] at cc
      rw [← hx, ← hiN] at ca
      rw [← hy, ← hjN] at cb'
      rw [← hiN] at fa
      rw [← hjN] at fb
      clear S1 HO hx hy hiN hjN
      go_wp2_with fail
      go_big_region_o
      clear ca cb' cc fa fb
      generalize ((wr.setCell ⟨blk, off + iN, none⟩ (enc y)).setCell ⟨blk, off + jN, none⟩ (enc x)).drew = w3 at S3 ⊢
      clear ea ec
      go_wp2
      go_roundg (n - (i + 1))
      case measure => omega
      case rel => exact ⟨i + 1, swp dk (a + i) (b + i), by go_num, by omega, by omega, by rw [size_swp]; exact hsk, S3, HO2⟩
    · have hltz : ¬ (i : Int) < (n : Int) := by omega
      go_wp2
      go_end0
      obtain rfl : i = n := by omega
      exact ⟨rfl, dk, hsk, HO.out.1, HO.out.2, S1.out⟩


set_option maxHeartbeats 16000000 in
set_option maxRecDepth 1000000 in
theorem rotate_s (enc : α → Value) (g : Nat) (cb : Array Value) (blk off cap a m b : Nat) (d0 d : Array α) (w0 w : World) (R : Row1 enc w0 blk off d0) (hs : d0.size = d.size) (S : SW enc w0 blk off d w) (ham : a < m) (hmb : m < b) (hb : b ≤ d.size) (hsz : d.size < 4611686018427387904) :
    Calls Try.prog 99 #[.slice (some ⟨blk, off, none⟩) d.size cap, .int .i64 a, .int .i64 m, .int .i64 b, .func (.func g) #[] cb] w fun e w' => e = .returned (.tuple #[]) ∧ ∃ d', d'.size = d.size ∧ PermIn a b d d' ∧ Stb.Is d' (Stb.rtF a m b (fun k => d[k]!)) ∧ SW enc w0 blk off d' w' := by
  have mixed : Try.prog.follows Departure.mixedOrders = true := by kernel_rfl
  have S0 : Aside (SW enc w0 blk off d w) := S
  clear S
  have rsub : ∀ x y : Nat, y ≤ x → x < 4611686018427387904 → IntKind.i64.wrap ((x : Int) - (y : Int)) = (x : Int) - (y : Int) := fun x y h1 h2 => by rw [IntKind.wrap_i64]; omega
  have e1 : ((m : Int) - (a : Int)) = ((m - a : Nat) : Int) := by omega
  have e2 : ((b : Int) - (m : Int)) = ((b - m : Nat) : Int) := by omega
  go_enter Try.func99, Try.ntmps99
  go_wp2
  go_loopg [10, 11] (b - a) (fun g1 vi vj wr => ∃ (i j : Nat) (dk : Array α), vi = .int .i64 i ∧ vj = .int .i64 j ∧ 1 ≤ i ∧ i ≤ m - a ∧ 1 ≤ j ∧ j ≤ b - m ∧ i + j ≤ g1 ∧ dk.size = d.size ∧ Aside (SW enc w0 blk off dk wr) ∧ Hid (PermIn a b d dk ∧ Stb.rtF (m - i) m (m + j) (fun k => dk[k]!) = Stb.rtF a m b (fun k => d[k]!)))
  case atStart => exact ⟨m - a, b - m, d, by first | exact congrArg _ e1 | go_num, by first | exact congrArg _ e2 | go_num, by omega, by omega, by omega, by omega, by omega, rfl, S0, (show Hid _ from ⟨permIn_refl _ _ _, by rw [show m - (m - a) = a by omega, show m + (b - m) = b by omega]⟩)⟩
  case round =>
    clear S0 e1 e2
    obtain ⟨i, j, dk, rfl, rfl, hi1, hi2, hj1, hj2, hg1, hsk, S1, HO⟩ := hrel
    have fis : ∀ {d' : Array α} {f : Nat → α}, Stb.Is d' f → (fun k => d'[k]!) = f := fun h => funext h
    by_cases hij : i = j
    · subst hij
      have hc := swapRange_s enc g cb blk off cap (m - i) m i d0 dk w0 wr R (by omega) S1.out (by omega) (by omega) (by omega)
      rw [hsk, show ((m - i : Nat) : Int) = (m : Int) - (i : Int) by omega] at hc
      have r1 := rsub m i (by omega) (by omega)
      clear S1
      go_wp2_with (go_at_call 101; refine hc.mono ?_; rintro e w1 ⟨rfl, d', hz, hp, hI, hw1⟩)
      go_end0
      refine ⟨rfl, d', by omega, permIn_trans _ _ _ _ _ HO.out.1 (permIn_mono _ _ _ _ _ _ (by omega) (by omega) (by omega) hp), ?_, hw1⟩
      rw [← HO.out.2]
      intro k
      rw [hI k, Stb.rt_eq _ (by omega)]
    · by_cases hgt : j < i
      · have hijz : ¬ (i : Int) = (j : Int) := by omega
        have hgtz : (j : Int) < (i : Int) := by omega
        have hc := swapRange_s enc g cb blk off cap (m - i) m j d0 dk w0 wr R (by omega) S1.out (by omega) (by omega) (by omega)
        rw [hsk, show ((m - i : Nat) : Int) = (m : Int) - (i : Int) by omega] at hc
        have r1 := rsub m i (by omega) (by omega)
        have r2 := rsub i j (by omega) (by omega)
        clear S1
        go_wp2_with (go_at_call 101; refine hc.mono ?_; rintro e w1 ⟨rfl, d', hz, hp, hI, hw1⟩)
        have S2 : Aside (SW enc w0 blk off d' w1) := hw1
        have HO2 : Hid (PermIn a b d d' ∧ Stb.rtF (m - (i - j)) m (m + j) (fun k => d'[k]!) = Stb.rtF a m b (fun k => d[k]!)) :=
          (show Hid _ from ⟨permIn_trans _ _ _ _ _ HO.out.1 (permIn_mono _ _ _ _ _ _ (by omega) (by omega) (by omega) hp), by rw [fis hI, Stb.rt_gt _ hgt (by omega)]; exact HO.out.2⟩)
        clear hw1 HO hI hp hc
        go_wp2
        go_roundg (i + j - 1)
        case measure => omega
        case rel => exact ⟨i - j, j, d', by first | go_num | (congr 1; omega), rfl, by omega, by omega, by omega, by omega, by omega, by omega, S2, HO2⟩
      · have hijz : ¬ (i : Int) = (j : Int) := by omega
        have hgtz : ¬ (j : Int) < (i : Int) := by omega
        have hc := swapRange_s enc g cb blk off cap (m - i) (m + j - i) i d0 dk w0 wr R (by omega) S1.out (by omega) (by omega) (by omega)
        rw [hsk, show ((m - i : Nat) : Int) = (m : Int) - (i : Int) by omega, show ((m + j - i : Nat) : Int) = (m : Int) + (j : Int) - (i : Int) by omega] at hc
        have r1 := rsub m i (by omega) (by omega)
        have r2 := rsub j i (by omega) (by omega)
        have r3 : IntKind.i64.wrap ((m : Int) + (j : Int)) = (m : Int) + (j : Int) := by rw [IntKind.wrap_i64]; omega
        have r4 : IntKind.i64.wrap ((m : Int) + (j : Int) - (i : Int)) = (m : Int) + (j : Int) - (i : Int) := by rw [IntKind.wrap_i64]; omega
        clear S1
        go_wp2_with (go_at_call 101; refine hc.mono ?_; rintro e w1 ⟨rfl, d', hz, hp, hI, hw1⟩)
        have S2 : Aside (SW enc w0 blk off d' w1) := hw1
        have HO2 : Hid (PermIn a b d d' ∧ Stb.rtF (m - i) m (m + (j - i)) (fun k => d'[k]!) = Stb.rtF a m b (fun k => d[k]!)) :=
          (show Hid _ from ⟨permIn_trans _ _ _ _ _ HO.out.1 (permIn_mono _ _ _ _ _ _ (by omega) (by omega) (by omega) hp), by rw [fis hI, Stb.rt_lt _ (by omega) (by omega)]; exact HO.out.2⟩)
        clear hw1 HO hI hp hc
        go_wp2
        go_roundg (i + j - 1)
        case measure => omega
        case rel => exact ⟨i, j - i, d', rfl, by first | go_num | (congr 1; omega), by omega, by omega, by omega, by omega, by omega, by omega, S2, HO2⟩
end Go.Proofs.Ythlfdhooiekgjaa
/-
  The stable sort of the library: merges where one part has one element, walked. No condition.
-/
set_option linter.unusedSimpArgs false
set_option linter.unusedVariables false
namespace Go.Proofs.Ythlfdhooiekgjaa
open Go Go.RowKit Go.Lib Go.Sort Go.Shelf
variable {α : Type} [Inhabited α]

set_option maxHeartbeats 16000000 in
set_option maxRecDepth 1000000 in
theorem symMerge_l (enc : α → Value) (cf : α → α → Int) (hO : SWO (ltOf cf)) (g : Nat) (cb : Array Value) (blk off cap a b : Nat) (d0 d : Array α) (w0 w : World)
    (eg : ∀ args w, (callFunc g args).run Try.prog w = .ok (.enter g args) w) (hcmp : CmpLays1 Try.prog g cb enc cf blk off d0.size w0) (R : Row1 enc w0 blk off d0) (hs : d0.size = d.size) (S : SW enc w0 blk off d w) (hab : a + 1 < b) (hb : b ≤ d.size) (hsz : d.size < 4611686018427387904) (hsr : SortedIn (ltOf cf) (a + 1) b d) :
    Calls Try.prog 93 #[.slice (some ⟨blk, off, none⟩) d.size cap, .int .i64 a, .int .i64 ((a + 1 : Nat)), .int .i64 b, .func (.func g) #[] cb] w fun e w' => e = .returned (.tuple #[]) ∧ ∃ d', d'.size = d.size ∧ PermIn a b d d' ∧ SortedIn (ltOf cf) a b d' ∧ SW enc w0 blk off d' w' := by
  have mixed : Try.prog.follows Departure.mixedOrders = true := by kernel_rfl
  have hcl0 := R.hO.cells
  simp only [Value.cells] at hcl0
  have hst := R.hO.store Try.prog
  have HC : Aside _ := hcmp
  have S0 : Aside (SW enc w0 blk off d w) := S
  have HS : Aside (SortedIn (ltOf cf) (a + 1) b d) := hsr
  clear S hcmp hsr
  obtain ⟨m, hm⟩ : ∃ m, m = a + 1 := ⟨_, rfl⟩
  have z1 : (m : Int) - (a : Int) = 1 := by omega
  have hm1 : m ≤ a + 1 := by omega
  have hm2 : a + 1 ≤ m := by omega
  rw [← hm]
  clear hm
  go_enter Try.func93, Try.ntmps93
  go_wp2
  go_loopg [10, 11] (b - a) (fun g1 vi vj wr => ∃ (i j : Nat), vi = .int .i64 i ∧ vj = .int .i64 j ∧ m ≤ i ∧ i ≤ j ∧ j ≤ b ∧ j - i ≤ g1 ∧ Aside (SW enc w0 blk off d wr) ∧ Hid ((m < i → ltOf cf d[i - 1]! d[a]! = true) ∧ (j < b → ltOf cf d[j]! d[a]! = false)))
  case atStart => exact ⟨m, b, rfl, rfl, by omega, by omega, by omega, by omega, S0, (show Hid _ from ⟨fun h => by omega, fun h => by omega⟩)⟩
  case round =>
    clear S0
    obtain ⟨i, j, rfl, rfl, hi, hij, hj, hg1, S1, HO⟩ := hrel
    by_cases hlt : i < j
    · have hltz : (i : Int) < (j : Int) := by omega
      go_wp2_with fail
      obtain ⟨h, hh⟩ : ∃ h, h = (i + j) / 2 := ⟨_, rfl⟩
      have ez : ((i : Int) + (j : Int)) / 2 = (h : Int) := by omega
      rw [ez]
      have hb1 : i ≤ h ∧ h < j := by omega
      clear ez hh
      have bh : (h : Int) < (d.size : Int) := by omega
      have ba : (a : Int) < (d.size : Int) := by omega
      obtain ⟨x, hx⟩ : ∃ x, x = d[h]! := ⟨_, rfl⟩
      obtain ⟨y, hy⟩ : ∃ x, x = d[a]! := ⟨_, rfl⟩
      have la := S1.out.cl R hs.symm h (by omega)
      have lb := S1.out.cl R hs.symm a (by omega)
      rw [← hx] at la
      rw [← hy] at lb
      have hcc := S1.out.cmp HC.out hs.symm x y
      by_cases hv : cf x y < 0
      · have hd : decide (cf x y < 0) = true := decide_eq_true hv
        have HO2 : Hid ((m < h + 1 → ltOf cf d[h + 1 - 1]! d[a]! = true) ∧ (j < b → ltOf cf d[j]! d[a]! = false)) :=
          (show Hid _ from ⟨fun _ => by rw [Nat.add_sub_cancel, ← hx, ← hy]; exact hd, HO.out.2⟩)
        clear HO hx hy
        go_quiet_grown (first | (go_at_fn g; refine Calls.grown_of (hcc _ _)))
        have S2 : Aside (SW enc w0 blk off d (grow (wr.drewN nq) osq)) := S1.out.grown nq osq
        clear la lb hcc S1
        generalize grow (wr.drewN nq) osq = w2 at S2 ⊢
        clear nq osq
        go_wp2
        go_roundg (j - (h + 1))
        case measure => omega
        case rel => exact ⟨h + 1, j, by go_num, rfl, by omega, by omega, by omega, by omega, S2, HO2⟩
      · have hd : decide (cf x y < 0) = false := decide_eq_false hv
        have HO2 : Hid ((m < i → ltOf cf d[i - 1]! d[a]! = true) ∧ (h < b → ltOf cf d[h]! d[a]! = false)) :=
          (show Hid _ from ⟨HO.out.1, fun _ => by rw [← hx, ← hy]; exact hd⟩)
        clear HO hx hy
        go_quiet_grown (first | (go_at_fn g; refine Calls.grown_of (hcc _ _)))
        have S2 : Aside (SW enc w0 blk off d (grow (wr.drewN nq) osq)) := S1.out.grown nq osq
        clear la lb hcc S1
        generalize grow (wr.drewN nq) osq = w2 at S2 ⊢
        clear nq osq
        go_wp2
        go_roundg (h - i)
        case measure => omega
        case rel => exact ⟨i, h, rfl, by go_num, by omega, by omega, by omega, by omega, S2, HO2⟩
    · have hltz : ¬ (i : Int) < (j : Int) := by omega
      obtain rfl : i = j := by omega
      have HF : Hid (Stb.Sd (ltOf cf) a b (Stb.rtF a (a + 1) i (fun k => d[k]!))) :=
        (show Hid _ from Stb.one_left hO ((Stb.sd_of (fun k => rfl)).1 HS.out) (by omega) (fun h => HO.out.1 (by omega)) (fun h => HO.out.2 h))
      clear HO
      go_wp2
      go_loopg [13] (i - a) (fun g1 vk wr => ∃ (k : Nat) (dk : Array α), vk = .int .i64 k ∧ a ≤ k ∧ k + 1 ≤ i ∧ i - k ≤ g1 + 1 ∧ dk.size = d.size ∧ Aside (SW enc w0 blk off dk wr) ∧ Hid (PermIn a b d dk ∧ Stb.Is dk (Stb.rtF a (a + 1) (k + 1) (fun k => d[k]!))))
      case atStart => exact ⟨a, d, by go_num, by omega, by omega, by omega, rfl, S1, (show Hid _ from ⟨permIn_refl _ _ _, fun k => by rw [Stb.rt_id2]⟩)⟩
      case round =>
        clear S1
        obtain ⟨k, dk, rfl, hk1, hk2, hg2, hsk, S1, HO⟩ := hrel
        have wi : IntKind.i64.wrap ((i : Int) - 1) = (i : Int) - 1 := by rw [IntKind.wrap_i64]; omega
        by_cases hlk : k + 1 < i
        · have hlkz : (k : Int) < (i : Int) - 1 := by omega
          go_wp2
          have pa : (0 : Int) ≤ (k : Int) + 1 := by omega
          have ba : (k : Int) < (d.size : Int) := by omega
          have ra : IntKind.i64.wrap ((k : Int) + 1) = (k : Int) + 1 := by rw [IntKind.wrap_i64]; omega
          obtain ⟨jN, hjN⟩ : ∃ q, q = k + 1 := ⟨_, rfl⟩
          have ec : ((k : Int) + 1).toNat = jN := by omega
          have bc : (k : Int) + 1 < (d.size : Int) := by omega
          obtain ⟨x, hx⟩ : ∃ x, x = dk[k]! := ⟨_, rfl⟩
          obtain ⟨y, hy⟩ : ∃ x, x = dk[k + 1]! := ⟨_, rfl⟩
          have S3 : Aside (SW enc w0 blk off (swp dk k (k + 1)) ((wr.setCell ⟨blk, off + k, none⟩ (enc y)).setCell ⟨blk, off + jN, none⟩ (enc x)).drew) := by rw [hjN, hx, hy]; exact S1.out.swapped R k (k + 1) (by omega) (by omega)
          have ca := S1.out.c1 R (by omega) k (by omega)
          have cb' := S1.out.c1 R (by omega) (k + 1) (by omega)
          have fa := S1.out.f1 R (by omega) k (by omega)
          have fb := S1.out.f1 R (by omega) (k + 1) (by omega)
          obtain ⟨u, cc⟩ := S1.out.c2 R (by omega) k (k + 1) (by omega) (by omega) (enc y)
          have HO2 : Hid (PermIn a b d (swp dk k (k + 1)) ∧ Stb.Is (swp dk k (k + 1)) (Stb.rtF a (a + 1) (k + 2) (fun k => d[k]!))) :=
            (show Hid _ from ⟨permIn_trans _ _ _ _ _ HO.out.1 (swp_permIn _ _ _ _ _ (by omega) (by omega) (by omega) (by omega) (by omega)), Stb.rot_up HO.out.2 hk1 (by omega)⟩)
          rw [← hjN] at cc
          rw [← hx] at ca
          rw [← hy, ← hjN] at cb'
          rw [← hjN] at fb
          clear S1 HO hx hy hjN
          go_wp2_with fail
          go_big_region_o
          clear ca cb' cc fa fb
          generalize ((wr.setCell ⟨blk, off + k, none⟩ (enc y)).setCell ⟨blk, off + jN, none⟩ (enc x)).drew = w3 at S3 ⊢
          clear ec
          go_wp2
          go_roundg (i - (k + 1) - 1)
          case measure => omega
          case rel => exact ⟨k + 1, swp dk k (k + 1), by go_num, by omega, by omega, by omega, by rw [size_swp]; exact hsk, S3, HO2⟩
        · have hlkz : ¬ (k : Int) < (i : Int) - 1 := by omega
          obtain rfl : i = k + 1 := by omega
          go_wp2
          (try simp only [Exit.inBlock, Exit.then])
          refine bodyPost_ret (results_none rfl _ _ _) rfl ?_
          exact ⟨rfl, dk, hsk, HO.out.1, (Stb.sd_of HO.out.2).2 HF.out, S1.out⟩

set_option maxHeartbeats 16000000 in
set_option maxRecDepth 1000000 in
theorem symMerge_r (enc : α → Value) (cf : α → α → Int) (hO : SWO (ltOf cf)) (g : Nat) (cb : Array Value) (blk off cap a m : Nat) (d0 d : Array α) (w0 w : World)
    (eg : ∀ args w, (callFunc g args).run Try.prog w = .ok (.enter g args) w) (hcmp : CmpLays1 Try.prog g cb enc cf blk off d0.size w0) (R : Row1 enc w0 blk off d0) (hs : d0.size = d.size) (S : SW enc w0 blk off d w) (hab : a + 1 < m) (hb0 : m + 1 ≤ d.size) (hsz : d.size < 4611686018427387904) (hsr : SortedIn (ltOf cf) a m d) :
    Calls Try.prog 93 #[.slice (some ⟨blk, off, none⟩) d.size cap, .int .i64 a, .int .i64 m, .int .i64 ((m + 1 : Nat)), .func (.func g) #[] cb] w fun e w' => e = .returned (.tuple #[]) ∧ ∃ d', d'.size = d.size ∧ PermIn a (m + 1) d d' ∧ SortedIn (ltOf cf) a (m + 1) d' ∧ SW enc w0 blk off d' w' := by
  have mixed : Try.prog.follows Departure.mixedOrders = true := by kernel_rfl
  have hcl0 := R.hO.cells
  simp only [Value.cells] at hcl0
  have hst := R.hO.store Try.prog
  have HC : Aside _ := hcmp
  have S0 : Aside (SW enc w0 blk off d w) := S
  have HS : Aside (SortedIn (ltOf cf) a m d) := hsr
  clear S hcmp hsr
  obtain ⟨b, hm⟩ : ∃ b, b = m + 1 := ⟨_, rfl⟩
  have z1 : ¬ (m : Int) - (a : Int) = 1 := by omega
  have z2 : (b : Int) - (m : Int) = 1 := by omega
  have z1b : ((m : Int) - (a : Int) == 1) = false := beq_false_of_ne z1
  have z2b : ((b : Int) - (m : Int) == 1) = true := by rw [z2]; rfl
  have hm1 : b ≤ m + 1 := by omega
  have hm2 : m + 1 ≤ b := by omega
  have HE : Aside (b = m + 1) := hm
  have hb : b ≤ d.size := by omega
  rw [show ((m + 1 : Nat) : Int) = (b : Int) by omega]
  clear hm
  go_enter Try.func93, Try.ntmps93
  go_wp2
  go_loopg [14, 15] (m - a) (fun g1 vi vj wr => ∃ (i j : Nat), vi = .int .i64 i ∧ vj = .int .i64 j ∧ a ≤ i ∧ i ≤ j ∧ j ≤ m ∧ j - i ≤ g1 ∧ Aside (SW enc w0 blk off d wr) ∧ Hid ((a < i → ltOf cf d[m]! d[i - 1]! = false) ∧ (j < m → ltOf cf d[m]! d[j]! = true)))
  case atStart => exact ⟨a, m, rfl, rfl, by omega, by omega, by omega, by omega, S0, (show Hid _ from ⟨fun h => by omega, fun h => by omega⟩)⟩
  case round =>
    clear S0
    obtain ⟨i, j, rfl, rfl, hi, hij, hj, hg1, S1, HO⟩ := hrel
    by_cases hlt : i < j
    · have hltz : (i : Int) < (j : Int) := by omega
      go_wp2_with fail
      obtain ⟨h, hh⟩ : ∃ h, h = (i + j) / 2 := ⟨_, rfl⟩
      have ez : ((i : Int) + (j : Int)) / 2 = (h : Int) := by omega
      rw [ez]
      have hb1 : i ≤ h ∧ h < j := by omega
      clear ez hh
      have bh : (h : Int) < (d.size : Int) := by omega
      have ba : (m : Int) < (d.size : Int) := by omega
      obtain ⟨x, hx⟩ : ∃ x, x = d[m]! := ⟨_, rfl⟩
      obtain ⟨y, hy⟩ : ∃ x, x = d[h]! := ⟨_, rfl⟩
      have la := S1.out.cl R hs.symm m (by omega)
      have lb := S1.out.cl R hs.symm h (by omega)
      rw [← hx] at la
      rw [← hy] at lb
      have hcc := S1.out.cmp HC.out hs.symm x y
      by_cases hv : cf x y < 0
      · have hd : decide (cf x y < 0) = true := decide_eq_true hv
        have HO2 : Hid ((a < i → ltOf cf d[m]! d[i - 1]! = false) ∧ (h < m → ltOf cf d[m]! d[h]! = true)) :=
          (show Hid _ from ⟨HO.out.1, fun _ => by rw [← hx, ← hy]; exact hd⟩)
        clear HO hx hy
        go_quiet_grown (first | (go_at_fn g; refine Calls.grown_of (hcc _ _)))
        have S2 : Aside (SW enc w0 blk off d (grow (wr.drewN nq) osq)) := S1.out.grown nq osq
        clear la lb hcc S1
        generalize grow (wr.drewN nq) osq = w2 at S2 ⊢
        clear nq osq
        go_wp2
        go_roundg (h - i)
        case measure => omega
        case rel => exact ⟨i, h, rfl, by go_num, by omega, by omega, by omega, by omega, S2, HO2⟩
      · have hd : decide (cf x y < 0) = false := decide_eq_false hv
        have HO2 : Hid ((a < h + 1 → ltOf cf d[m]! d[h + 1 - 1]! = false) ∧ (j < m → ltOf cf d[m]! d[j]! = true)) :=
          (show Hid _ from ⟨fun _ => by rw [Nat.add_sub_cancel, ← hx, ← hy]; exact hd, HO.out.2⟩)
        clear HO hx hy
        go_quiet_grown (first | (go_at_fn g; refine Calls.grown_of (hcc _ _)))
        have S2 : Aside (SW enc w0 blk off d (grow (wr.drewN nq) osq)) := S1.out.grown nq osq
        clear la lb hcc S1
        generalize grow (wr.drewN nq) osq = w2 at S2 ⊢
        clear nq osq
        go_wp2
        go_roundg (j - (h + 1))
        case measure => omega
        case rel => exact ⟨h + 1, j, by go_num, rfl, by omega, by omega, by omega, by omega, S2, HO2⟩
    · have hltz : ¬ (i : Int) < (j : Int) := by omega
      obtain rfl : i = j := by omega
      have HF : Hid (Stb.Sd (ltOf cf) a (m + 1) (Stb.rtF i m (m + 1) (fun k => d[k]!))) :=
        (show Hid _ from Stb.one_right hO ((Stb.sd_of (fun k => rfl)).1 HS.out) (by omega) (fun h => HO.out.1 (by omega)) (fun h => HO.out.2 h))
      clear HO
      go_wp2
      go_loopg [17] (m - i) (fun g1 vk wr => ∃ (k : Nat) (dk : Array α), vk = .int .i64 k ∧ i ≤ k ∧ k ≤ m ∧ k - i ≤ g1 ∧ dk.size = d.size ∧ Aside (SW enc w0 blk off dk wr) ∧ Hid (PermIn a (m + 1) d dk ∧ Stb.Is dk (Stb.rtF k m (m + 1) (fun k => d[k]!))))
      case atStart => exact ⟨m, d, by go_num, by omega, by omega, by omega, rfl, S1, (show Hid _ from ⟨permIn_refl _ _ _, fun k => by rw [Stb.rt_id1]⟩)⟩
      case round =>
        clear S1
        obtain ⟨k', dk, rfl, hk1, hk2, hg2, hsk, S1, HO⟩ := hrel
        by_cases hlk : i < k'
        · obtain ⟨k, rfl⟩ : ∃ k, k' = k + 1 := ⟨k' - 1, by omega⟩
          have hlkz : (i : Int) < (k : Int) + 1 := by omega
          go_wp2
          have pa : (0 : Int) ≤ (k : Int) + 1 := by omega
          have ba : (k : Int) < (d.size : Int) := by omega
          have ra : IntKind.i64.wrap ((k : Int) + 1) = (k : Int) + 1 := by rw [IntKind.wrap_i64]; omega
          obtain ⟨jN, hjN⟩ : ∃ q, q = k + 1 := ⟨_, rfl⟩
          have ec : ((k : Int) + 1).toNat = jN := by omega
          have bc : (k : Int) + 1 < (d.size : Int) := by omega
          obtain ⟨x, hx⟩ : ∃ x, x = dk[k + 1]! := ⟨_, rfl⟩
          obtain ⟨y, hy⟩ : ∃ x, x = dk[k]! := ⟨_, rfl⟩
          have S3 : Aside (SW enc w0 blk off (swp dk (k + 1) k) ((wr.setCell ⟨blk, off + jN, none⟩ (enc y)).setCell ⟨blk, off + k, none⟩ (enc x)).drew) := by rw [hjN, hx, hy]; exact S1.out.swapped R (k + 1) k (by omega) (by omega)
          have ca := S1.out.c1 R (by omega) (k + 1) (by omega)
          have cb' := S1.out.c1 R (by omega) k (by omega)
          have fa := S1.out.f1 R (by omega) (k + 1) (by omega)
          have fb := S1.out.f1 R (by omega) k (by omega)
          obtain ⟨u, cc⟩ := S1.out.c2 R (by omega) (k + 1) k (by omega) (by omega) (enc y)
          have HO2 : Hid (PermIn a (m + 1) d (swp dk (k + 1) k) ∧ Stb.Is (swp dk (k + 1) k) (Stb.rtF k m (m + 1) (fun k => d[k]!))) :=
            (show Hid _ from ⟨permIn_trans _ _ _ _ _ HO.out.1 (swp_permIn _ _ _ _ _ (by omega) (by omega) (by omega) (by omega) (by omega)), Stb.rot_dn HO.out.2 (by omega) (by omega)⟩)
          rw [← hjN] at cc
          rw [← hx, ← hjN] at ca
          rw [← hy] at cb'
          rw [← hjN] at fa
          clear S1 HO hx hy hjN
          go_wp2_with fail
          go_big_region_o
          clear ca cb' cc fa fb
          generalize ((wr.setCell ⟨blk, off + jN, none⟩ (enc y)).setCell ⟨blk, off + k, none⟩ (enc x)).drew = w3 at S3 ⊢
          clear ec
          go_wp2
          go_roundg (k - i)
          case measure => omega
          case rel => exact ⟨k, swp dk (k + 1) k, by go_num, by omega, by omega, by omega, by rw [size_swp]; exact hsk, S3, HO2⟩
        · have hlkz : ¬ (i : Int) < (k' : Int) := by omega
          obtain rfl : i = k' := by omega
          go_wp2
          (try simp only [Exit.inBlock, Exit.then])
          refine bodyPost_ret (results_none rfl _ _ _) rfl ?_
          exact ⟨rfl, dk, hsk, HO.out.1, (Stb.sd_of HO.out.2).2 HF.out, S1.out⟩
end Go.Proofs.Ythlfdhooiekgjaa
/-
  The stable sort of the library: merges in general, walked. No condition.
-/
set_option linter.unusedSimpArgs false
set_option linter.unusedVariables false
namespace Go.Proofs.Ythlfdhooiekgjaa
open Go Go.RowKit Go.Lib Go.Sort Go.Shelf
variable {α : Type} [Inhabited α]

theorem Stb.fin {lt : α → α → Bool} {d1 d2 d3 : Array α} {a c b : Nat} (hac : a ≤ c) (hcb : c ≤ b) (hb : b ≤ d1.size) (hx : ∀ x y, a ≤ x → x < c → c ≤ y → y < b → lt d1[y]! d1[x]! = false)
    (p2 : PermIn a c d1 d2) (s2 : SortedIn lt a c d2) (p3 : PermIn c b d2 d3) (s3 : SortedIn lt c b d3) : SortedIn lt a b d3 := by
  have h2 : ∀ x y, a ≤ x → x < c → c ≤ y → y < b → lt d2[y]! d2[x]! = false := fun x y h1 h2 h3 h4 => by
    have := permIn_all d1 d2 a c (fun v => ∀ y, c ≤ y → y < b → lt d1[y]! v = false) (by omega) p2 (fun i hi hj y h3 h4 => hx i y hi hj h3 h4) x h1 h2 y h3 h4
    rw [p2.2.1 y (Or.inr h3)]; exact this
  have h3 : ∀ x y, a ≤ x → x < c → c ≤ y → y < b → lt d3[y]! d3[x]! = false := fun x y h1 h2' h3 h4 => by
    have hz : d2.size = d1.size := p2.1
    have := permIn_all d2 d3 c b (fun v => ∀ x, a ≤ x → x < c → lt v d2[x]! = false) (by omega) p3 (fun i hi hj x h1 h2' => h2 x i h1 h2' hi hj) y h3 h4 x h1 h2'
    rw [p3.2.1 x (Or.inl h2')]; exact this
  intro p q hp hpq hq
  by_cases c1 : q < c
  · rw [p3.2.1 q (Or.inl c1), p3.2.1 p (Or.inl (by omega))]; exact s2 p q hp hpq c1
  · by_cases c2 : p < c
    · exact h3 p q hp c2 (by omega) hq
    · exact s3 p q (by omega) hpq hq

/-- What a merge comes to. -/
def MergeOk (enc : α → Value) (cf : α → α → Int) (g : Nat) (cb : Array Value) (blk off cap : Nat) (d0 : Array α) (w0 : World) (a m b : Nat) (d : Array α) (w : World) : Prop :=
  Calls Try.prog 93 #[.slice (some ⟨blk, off, none⟩) d0.size cap, .int .i64 a, .int .i64 m, .int .i64 b, .func (.func g) #[] cb] w fun e w' => e = .returned (.tuple #[]) ∧ ∃ d', d'.size = d.size ∧ PermIn a b d d' ∧ SortedIn (ltOf cf) a b d' ∧ SW enc w0 blk off d' w'

set_option maxHeartbeats 64000000 in
set_option maxRecDepth 1000000 in
theorem symMerge_i (enc : α → Value) (cf : α → α → Int) (hO : SWO (ltOf cf)) (g : Nat) (cb : Array Value) (blk off cap a m b : Nat) (d0 d : Array α) (w0 w : World)
    (eg : ∀ args w, (callFunc g args).run Try.prog w = .ok (.enter g args) w) (hcmp : CmpLays1 Try.prog g cb enc cf blk off d0.size w0) (R : Row1 enc w0 blk off d0) (hs : d0.size = d.size) (S : SW enc w0 blk off d w) (ham : a + 1 < m) (hmb : m + 1 < b) (hb : b ≤ d.size) (hsz : d.size < 4611686018427387904) (hsl : SortedIn (ltOf cf) a m d) (hsr : SortedIn (ltOf cf) m b d)
    (ih : ∀ (a' m' b' : Nat) (d' : Array α) (w' : World), b' - a' < b - a → a' < m' → m' < b' → b' ≤ d'.size → d0.size = d'.size → SW enc w0 blk off d' w' → SortedIn (ltOf cf) a' m' d' → SortedIn (ltOf cf) m' b' d' → MergeOk enc cf g cb blk off cap d0 w0 a' m' b' d' w') :
    MergeOk enc cf g cb blk off cap d0 w0 a m b d w := by
  unfold MergeOk at *
  have mixed : Try.prog.follows Departure.mixedOrders = true := by kernel_rfl
  have hcl0 := R.hO.cells
  simp only [Value.cells] at hcl0
  have hst := R.hO.store Try.prog
  have HC : Aside _ := hcmp
  have S0 : Aside (SW enc w0 blk off d w) := S
  have HL : Aside (SortedIn (ltOf cf) a m d) := hsl
  have HR : Aside (SortedIn (ltOf cf) m b d) := hsr
  have IH : Aside _ := ih
  clear S hcmp hsr hsl ih
  rw [hs]
  have z1 : ¬ (m : Int) - (a : Int) = 1 := by omega
  have z2 : ¬ (b : Int) - (m : Int) = 1 := by omega
  have z1b : ((m : Int) - (a : Int) == 1) = false := beq_false_of_ne z1
  have z2b : ((b : Int) - (m : Int) == 1) = false := beq_false_of_ne z2
  obtain ⟨mid, hmid⟩ : ∃ mid, mid = (a + b) / 2 := ⟨_, rfl⟩
  have ez : ((a : Int) + (b : Int)) / 2 = (mid : Int) := by omega
  have hm1 : 2 * mid ≤ a + b := by omega
  have hm2 : a + b ≤ 2 * mid + 1 := by omega
  obtain ⟨n, hn⟩ : ∃ n, n = mid + m := ⟨_, rfl⟩
  have en : (mid : Int) + (m : Int) = (n : Int) := by omega
  obtain ⟨p, hp⟩ : ∃ p, p + 1 = n := ⟨n - 1, by omega⟩
  have ep : (n : Int) - 1 = (p : Int) := by omega
  have hn1 : n ≤ mid + m := by omega
  have hn2 : mid + m ≤ n := by omega
  have hp1 : p + 1 ≤ n := by omega
  have hp2 : n ≤ p + 1 := by omega
  have HMID : Aside (mid = (a + b) / 2) := hmid
  clear hmid hn hp
  by_cases hmm : mid < m
  · have hmz : (mid : Int) < (m : Int) := by omega
    obtain ⟨s0, hs0⟩ : ∃ s0, s0 + b = n := ⟨n - b, by omega⟩
    have es0 : (n : Int) - (b : Int) = (s0 : Int) := by omega
    have hs1 : s0 + b ≤ n := by omega
    have hs2 : n ≤ s0 + b := by omega
    clear hs0
    go_enter Try.func93, Try.ntmps93
    go_wp2
    go_loopg [20, 21] (mid - s0) (fun g1 vi vj wr => ∃ (i j : Nat), vi = .int .i64 i ∧ vj = .int .i64 j ∧ s0 ≤ i ∧ i ≤ j ∧ j ≤ mid ∧ j - i ≤ g1 ∧ Aside (SW enc w0 blk off d wr) ∧ Hid ((s0 < i → ltOf cf d[p - (i - 1)]! d[i - 1]! = false) ∧ (j < mid → ltOf cf d[p - j]! d[j]! = true)))
    case atStart => exact ⟨s0, mid, by go_num, by go_num, by omega, by omega, by omega, by omega, S0, (show Hid _ from ⟨fun h => by omega, fun h => by omega⟩)⟩
    case round =>
      clear S0
      obtain ⟨i, j, rfl, rfl, hi, hij, hj, hg1, S1, HO⟩ := hrel
      by_cases hlt : i < j
      · have hltz : (i : Int) < (j : Int) := by omega
        go_wp2_with fail
        obtain ⟨h, hh⟩ : ∃ h, h = (i + j) / 2 := ⟨_, rfl⟩
        have eh : ((i : Int) + (j : Int)) / 2 = (h : Int) := by omega
        rw [eh]
        clear eh
        have hb1 : i ≤ h ∧ h < j := by omega
        clear hh
        obtain ⟨q, hq⟩ : ∃ q, q + h = p := ⟨p - h, by omega⟩
        have epq : (p : Int) - (h : Int) = (q : Int) := by omega
        have bq : (q : Int) < (d.size : Int) := by omega
        have rq : IntKind.i64.wrap (q : Int) = (q : Int) := by rw [IntKind.wrap_i64]; omega
        have HQ : Aside (p - h = q) := (show Aside _ from by show p - h = q; omega)
        clear hq
        have bh : (h : Int) < (d.size : Int) := by omega
        obtain ⟨x, hx⟩ : ∃ x, x = d[q]! := ⟨_, rfl⟩
        obtain ⟨y, hy⟩ : ∃ x, x = d[h]! := ⟨_, rfl⟩
        have la := S1.out.cl R hs.symm q (by omega)
        have lb := S1.out.cl R hs.symm h (by omega)
        rw [← hx] at la
        rw [← hy] at lb
        have hcc := S1.out.cmp HC.out hs.symm x y
        by_cases hv : cf x y < 0
        · have hd : decide (cf x y < 0) = true := decide_eq_true hv
          have HO2 : Hid ((s0 < i → ltOf cf d[p - (i - 1)]! d[i - 1]! = false) ∧ (h < mid → ltOf cf d[p - h]! d[h]! = true)) :=
            (show Hid _ from ⟨HO.out.1, fun _ => by rw [HQ.out, ← hx, ← hy]; exact hd⟩)
          clear HO hx hy HQ
          go_quiet_grown (first | (go_at_fn g; refine Calls.grown_of (hcc _ _)))
          have S2 : Aside (SW enc w0 blk off d (grow (wr.drewN nq) osq)) := S1.out.grown nq osq
          clear la lb hcc S1
          generalize grow (wr.drewN nq) osq = w2 at S2 ⊢
          clear nq osq
          go_wp2
          go_roundg (h - i)
          case measure => omega
          case rel => exact ⟨i, h, rfl, by go_num, by omega, by omega, by omega, by omega, S2, HO2⟩
        · have hd : decide (cf x y < 0) = false := decide_eq_false hv
          have HO2 : Hid ((s0 < h + 1 → ltOf cf d[p - (h + 1 - 1)]! d[h + 1 - 1]! = false) ∧ (j < mid → ltOf cf d[p - j]! d[j]! = true)) :=
            (show Hid _ from ⟨fun _ => by rw [Nat.add_sub_cancel, HQ.out, ← hx, ← hy]; exact hd, HO.out.2⟩)
          clear HO hx hy HQ
          go_quiet_grown (first | (go_at_fn g; refine Calls.grown_of (hcc _ _)))
          have S2 : Aside (SW enc w0 blk off d (grow (wr.drewN nq) osq)) := S1.out.grown nq osq
          clear la lb hcc S1
          generalize grow (wr.drewN nq) osq = w2 at S2 ⊢
          clear nq osq
          go_wp2
          go_roundg (j - (h + 1))
          case measure => omega
          case rel => exact ⟨h + 1, j, by go_num, rfl, by omega, by omega, by omega, by omega, S2, HO2⟩
      · have hltz : ¬ (i : Int) < (j : Int) := by omega
        obtain rfl : i = j := by omega
        obtain ⟨e, he⟩ : ∃ e, e + i = n := ⟨n - i, by omega⟩
        have ee : (n : Int) - (i : Int) = (e : Int) := by omega
        have he1 : e + i ≤ n := by omega
        have he2 : n ≤ e + i := by omega
        have CU : Hid (Stb.Cut (ltOf cf) (fun k => d[k]!) a m b i e) := (show Hid _ from ⟨by omega, by omega, by omega, by have := HMID.out; omega,
          fun h1 h2 => by have := HO.out.1 (by omega); rw [show p - (i - 1) = e by omega] at this; exact this,
          fun h1 h2 => by have := HO.out.2 (by omega); rw [show p - i = e - 1 by omega] at this; exact this⟩)
        have CR : Hid _ := CU.out.cross hO ((Stb.sd_of (fun k => rfl)).1 HL.out) ((Stb.sd_of (fun k => rfl)).1 HR.out)
        rw [← HMID.out] at CR
        clear he HO CU
        by_cases c1 : i < m ∧ m < e
        · have hrc := rotate_s enc g cb blk off cap i m e d0 d w0 wr R hs S1.out c1.1 c1.2 (by omega) hsz
          have c1a : (i : Int) < (m : Int) := by omega
          have c1b : (m : Int) < (e : Int) := by omega
          by_cases c2 : a < i ∧ i < mid
          · have c2a : (a : Int) < (i : Int) := by omega
            have c2b : (i : Int) < (mid : Int) := by omega
            clear c2
            by_cases c3 : mid < e ∧ e < b
            · have c3a : (mid : Int) < (e : Int) := by omega
              have c3b : (e : Int) < (b : Int) := by omega
              clear c3
              go_wp2_with fail
              refine hrc.mono ?_
              rintro ev w1 ⟨rfl, d1, hz1, hpr, hIr, hwr⟩
              clear c1
              have hp1' : Hid (PermIn a b d d1) := (show Hid _ from permIn_mono _ _ _ _ _ _ (by omega) (by omega) (by omega) hpr)
              have hI1 : Hid (Stb.Is d1 (Stb.rtF i m e (fun k => d[k]!))) := hIr
              have hw1 : Aside (SW enc w0 blk off d1 w1) := hwr
              clear hpr hIr hwr hrc S1
              have C1 : Hid (SortedIn (ltOf cf) a i d1 ∧ SortedIn (ltOf cf) i mid d1 ∧ SortedIn (ltOf cf) mid e d1 ∧ SortedIn (ltOf cf) e b d1 ∧ ∀ x y, a ≤ x → x < mid → mid ≤ y → y < b → ltOf cf d1[y]! d1[x]! = false) :=
                (show Hid _ from ⟨(Stb.sd_of hI1.out).2 CR.out.1, (Stb.sd_of hI1.out).2 CR.out.2.1, (Stb.sd_of hI1.out).2 CR.out.2.2.1, (Stb.sd_of hI1.out).2 CR.out.2.2.2.1, fun x y h1 h2 h3 h4 => by rw [hI1.out, hI1.out]; exact CR.out.2.2.2.2 x y h1 h2 h3 h4⟩)
              clear hI1 CR
              have hl := IH.out a i mid d1 w1 (by omega) (by omega) (by omega) (by omega) (by omega) hw1.out C1.out.1 C1.out.2.1
              rw [hs] at hl
              clear hw1
              go_wp2_with fail
              refine hl.mono ?_
              rintro ev w2 ⟨rfl, d2, hz2, hpl, hsl2, hwl⟩
              have hp2' : Hid (PermIn a mid d1 d2) := hpl
              have hs2' : Hid (SortedIn (ltOf cf) a mid d2) := hsl2
              have hw2 : Aside (SW enc w0 blk off d2 w2) := hwl
              clear hpl hsl2 hwl hl
              have C2 : Hid (SortedIn (ltOf cf) mid e d2 ∧ SortedIn (ltOf cf) e b d2) := (show Hid _ from ⟨C1.out.2.2.1.congr (fun i h1 h2 => hp2'.out.2.1 i (Or.inr h1)), C1.out.2.2.2.1.congr (fun i h1 h2 => hp2'.out.2.1 i (Or.inr (by omega)))⟩)
              have hl3 := IH.out mid e b d2 w2 (by omega) (by omega) (by omega) (by omega) (by omega) hw2.out C2.out.1 C2.out.2
              rw [hs] at hl3
              clear hw2
              go_wp2_with fail
              all_goals refine hl3.mono ?_
              all_goals rintro ev w3 ⟨rfl, d3, hz3, hpl3, hsl3, hwl3⟩
              all_goals go_wp2_with fail
              all_goals go_end0
              all_goals exact ⟨rfl, d3, by omega, permIn_trans _ _ _ _ _ hp1'.out (permIn_trans _ _ _ _ _ (permIn_mono _ _ _ _ _ _ (by omega) (by omega) (by omega) hp2'.out) (permIn_mono _ _ _ _ _ _ (by omega) (by omega) (by omega) hpl3)), Stb.fin (by omega) (by omega) (by omega) C1.out.2.2.2.2 hp2'.out hs2'.out hpl3 hsl3, hwl3⟩
            · have c3a : ¬ ((mid : Int) < (e : Int) ∧ (e : Int) < (b : Int)) := by omega
              go_wp2_with fail
              refine hrc.mono ?_
              rintro ev w1 ⟨rfl, d1, hz1, hpr, hIr, hwr⟩
              clear c1
              have hp1' : Hid (PermIn a b d d1) := (show Hid _ from permIn_mono _ _ _ _ _ _ (by omega) (by omega) (by omega) hpr)
              have hI1 : Hid (Stb.Is d1 (Stb.rtF i m e (fun k => d[k]!))) := hIr
              have hw1 : Aside (SW enc w0 blk off d1 w1) := hwr
              clear hpr hIr hwr hrc S1
              have C1 : Hid (SortedIn (ltOf cf) a i d1 ∧ SortedIn (ltOf cf) i mid d1 ∧ SortedIn (ltOf cf) mid e d1 ∧ SortedIn (ltOf cf) e b d1 ∧ ∀ x y, a ≤ x → x < mid → mid ≤ y → y < b → ltOf cf d1[y]! d1[x]! = false) :=
                (show Hid _ from ⟨(Stb.sd_of hI1.out).2 CR.out.1, (Stb.sd_of hI1.out).2 CR.out.2.1, (Stb.sd_of hI1.out).2 CR.out.2.2.1, (Stb.sd_of hI1.out).2 CR.out.2.2.2.1, fun x y h1 h2 h3 h4 => by rw [hI1.out, hI1.out]; exact CR.out.2.2.2.2 x y h1 h2 h3 h4⟩)
              clear hI1 CR
              have hl := IH.out a i mid d1 w1 (by omega) (by omega) (by omega) (by omega) (by omega) hw1.out C1.out.1 C1.out.2.1
              rw [hs] at hl
              clear hw1
              go_wp2_with fail
              refine hl.mono ?_
              rintro ev w2 ⟨rfl, d2, hz2, hpl, hsl2, hwl⟩
              have hp2' : Hid (PermIn a mid d1 d2) := hpl
              have hs2' : Hid (SortedIn (ltOf cf) a mid d2) := hsl2
              have hw2 : Aside (SW enc w0 blk off d2 w2) := hwl
              clear hpl hsl2 hwl hl
              have C2 : Hid (SortedIn (ltOf cf) mid e d2 ∧ SortedIn (ltOf cf) e b d2) := (show Hid _ from ⟨C1.out.2.2.1.congr (fun i h1 h2 => hp2'.out.2.1 i (Or.inr h1)), C1.out.2.2.2.1.congr (fun i h1 h2 => hp2'.out.2.1 i (Or.inr (by omega)))⟩)
              have hs3' : Hid (SortedIn (ltOf cf) mid b d2) := (show Hid _ from by
                by_cases hq : mid < e
                · have : e = b := by omega
                  have h3 := C2.out.1; rw [this] at h3; exact h3
                · have : e = mid := by omega
                  have h3 := C2.out.2; rw [this] at h3; exact h3)
              go_wp2_with fail
              all_goals go_end0
              all_goals exact ⟨rfl, d2, by omega, permIn_trans _ _ _ _ _ hp1'.out (permIn_mono _ _ _ _ _ _ (by omega) (by omega) (by omega) hp2'.out), Stb.fin (by omega) (by omega) (by omega) C1.out.2.2.2.2 hp2'.out hs2'.out (permIn_refl _ _ _) hs3'.out, hw2.out⟩
          · have c2a : ¬ ((a : Int) < (i : Int) ∧ (i : Int) < (mid : Int)) := by omega
            by_cases c3 : mid < e ∧ e < b
            · have c3a : (mid : Int) < (e : Int) := by omega
              have c3b : (e : Int) < (b : Int) := by omega
              clear c3
              go_wp2_with fail
              refine hrc.mono ?_
              rintro ev w1 ⟨rfl, d1, hz1, hpr, hIr, hwr⟩
              clear c1
              have hp1' : Hid (PermIn a b d d1) := (show Hid _ from permIn_mono _ _ _ _ _ _ (by omega) (by omega) (by omega) hpr)
              have hI1 : Hid (Stb.Is d1 (Stb.rtF i m e (fun k => d[k]!))) := hIr
              have hw1 : Aside (SW enc w0 blk off d1 w1) := hwr
              clear hpr hIr hwr hrc S1
              have C1 : Hid (SortedIn (ltOf cf) a i d1 ∧ SortedIn (ltOf cf) i mid d1 ∧ SortedIn (ltOf cf) mid e d1 ∧ SortedIn (ltOf cf) e b d1 ∧ ∀ x y, a ≤ x → x < mid → mid ≤ y → y < b → ltOf cf d1[y]! d1[x]! = false) :=
                (show Hid _ from ⟨(Stb.sd_of hI1.out).2 CR.out.1, (Stb.sd_of hI1.out).2 CR.out.2.1, (Stb.sd_of hI1.out).2 CR.out.2.2.1, (Stb.sd_of hI1.out).2 CR.out.2.2.2.1, fun x y h1 h2 h3 h4 => by rw [hI1.out, hI1.out]; exact CR.out.2.2.2.2 x y h1 h2 h3 h4⟩)
              clear hI1 CR
              obtain ⟨d2, hd2⟩ : ∃ d2, d2 = d1 := ⟨_, rfl⟩
              obtain ⟨w2, hw2e⟩ : ∃ w2, w2 = w1 := ⟨_, rfl⟩
              have hz2 : d2.size = d1.size := by rw [hd2]
              have hp2' : Hid (PermIn a mid d1 d2) := (show Hid _ from by rw [hd2]; exact permIn_refl _ _ _)
              have hs2' : Hid (SortedIn (ltOf cf) a mid d2) := (show Hid _ from by
                rw [hd2]
                by_cases hq : a < i
                · have : i = mid := by omega
                  have h3 := C1.out.1; rw [this] at h3; exact h3
                · have : i = a := by omega
                  have h3 := C1.out.2.1; rw [this] at h3; exact h3)
              have hw2 : Aside (SW enc w0 blk off d2 w2) := (show Aside _ from by rw [hd2, hw2e]; exact hw1.out)
              rw [← hw2e]
              clear hd2 hw2e hw1
              have C2 : Hid (SortedIn (ltOf cf) mid e d2 ∧ SortedIn (ltOf cf) e b d2) := (show Hid _ from ⟨C1.out.2.2.1.congr (fun i h1 h2 => hp2'.out.2.1 i (Or.inr h1)), C1.out.2.2.2.1.congr (fun i h1 h2 => hp2'.out.2.1 i (Or.inr (by omega)))⟩)
              have hl3 := IH.out mid e b d2 w2 (by omega) (by omega) (by omega) (by omega) (by omega) hw2.out C2.out.1 C2.out.2
              rw [hs] at hl3
              clear hw2
              go_wp2_with fail
              all_goals refine hl3.mono ?_
              all_goals rintro ev w3 ⟨rfl, d3, hz3, hpl3, hsl3, hwl3⟩
              all_goals go_wp2_with fail
              all_goals go_end0
              all_goals exact ⟨rfl, d3, by omega, permIn_trans _ _ _ _ _ hp1'.out (permIn_trans _ _ _ _ _ (permIn_mono _ _ _ _ _ _ (by omega) (by omega) (by omega) hp2'.out) (permIn_mono _ _ _ _ _ _ (by omega) (by omega) (by omega) hpl3)), Stb.fin (by omega) (by omega) (by omega) C1.out.2.2.2.2 hp2'.out hs2'.out hpl3 hsl3, hwl3⟩
            · have c3a : ¬ ((mid : Int) < (e : Int) ∧ (e : Int) < (b : Int)) := by omega
              go_wp2_with fail
              refine hrc.mono ?_
              rintro ev w1 ⟨rfl, d1, hz1, hpr, hIr, hwr⟩
              clear c1
              have hp1' : Hid (PermIn a b d d1) := (show Hid _ from permIn_mono _ _ _ _ _ _ (by omega) (by omega) (by omega) hpr)
              have hI1 : Hid (Stb.Is d1 (Stb.rtF i m e (fun k => d[k]!))) := hIr
              have hw1 : Aside (SW enc w0 blk off d1 w1) := hwr
              clear hpr hIr hwr hrc S1
              have C1 : Hid (SortedIn (ltOf cf) a i d1 ∧ SortedIn (ltOf cf) i mid d1 ∧ SortedIn (ltOf cf) mid e d1 ∧ SortedIn (ltOf cf) e b d1 ∧ ∀ x y, a ≤ x → x < mid → mid ≤ y → y < b → ltOf cf d1[y]! d1[x]! = false) :=
                (show Hid _ from ⟨(Stb.sd_of hI1.out).2 CR.out.1, (Stb.sd_of hI1.out).2 CR.out.2.1, (Stb.sd_of hI1.out).2 CR.out.2.2.1, (Stb.sd_of hI1.out).2 CR.out.2.2.2.1, fun x y h1 h2 h3 h4 => by rw [hI1.out, hI1.out]; exact CR.out.2.2.2.2 x y h1 h2 h3 h4⟩)
              clear hI1 CR
              obtain ⟨d2, hd2⟩ : ∃ d2, d2 = d1 := ⟨_, rfl⟩
              obtain ⟨w2, hw2e⟩ : ∃ w2, w2 = w1 := ⟨_, rfl⟩
              have hz2 : d2.size = d1.size := by rw [hd2]
              have hp2' : Hid (PermIn a mid d1 d2) := (show Hid _ from by rw [hd2]; exact permIn_refl _ _ _)
              have hs2' : Hid (SortedIn (ltOf cf) a mid d2) := (show Hid _ from by
                rw [hd2]
                by_cases hq : a < i
                · have : i = mid := by omega
                  have h3 := C1.out.1; rw [this] at h3; exact h3
                · have : i = a := by omega
                  have h3 := C1.out.2.1; rw [this] at h3; exact h3)
              have hw2 : Aside (SW enc w0 blk off d2 w2) := (show Aside _ from by rw [hd2, hw2e]; exact hw1.out)
              rw [← hw2e]
              clear hd2 hw2e hw1
              have C2 : Hid (SortedIn (ltOf cf) mid e d2 ∧ SortedIn (ltOf cf) e b d2) := (show Hid _ from ⟨C1.out.2.2.1.congr (fun i h1 h2 => hp2'.out.2.1 i (Or.inr h1)), C1.out.2.2.2.1.congr (fun i h1 h2 => hp2'.out.2.1 i (Or.inr (by omega)))⟩)
              have hs3' : Hid (SortedIn (ltOf cf) mid b d2) := (show Hid _ from by
                by_cases hq : mid < e
                · have : e = b := by omega
                  have h3 := C2.out.1; rw [this] at h3; exact h3
                · have : e = mid := by omega
                  have h3 := C2.out.2; rw [this] at h3; exact h3)
              go_wp2_with fail
              all_goals go_end0
              all_goals exact ⟨rfl, d2, by omega, permIn_trans _ _ _ _ _ hp1'.out (permIn_mono _ _ _ _ _ _ (by omega) (by omega) (by omega) hp2'.out), Stb.fin (by omega) (by omega) (by omega) C1.out.2.2.2.2 hp2'.out hs2'.out (permIn_refl _ _ _) hs3'.out, hw2.out⟩
        · have c1a : ¬ ((i : Int) < (m : Int) ∧ (m : Int) < (e : Int)) := by omega
          have hrt : Stb.Is d (Stb.rtF i m e (fun k => d[k]!)) := by
            intro k
            by_cases hq : i < m
            · rw [show e = m by omega, Stb.rt_id2]
            · rw [show i = m by omega, Stb.rt_id1]
          obtain ⟨d1, hd1⟩ : ∃ d1, d1 = d := ⟨_, rfl⟩
          obtain ⟨w1, hw1e⟩ : ∃ w1, w1 = wr := ⟨_, rfl⟩
          have hz1 : d1.size = d.size := by rw [hd1]
          have hp1' : Hid (PermIn a b d d1) := (show Hid _ from by rw [hd1]; exact permIn_refl _ _ _)
          have hI1 : Hid (Stb.Is d1 (Stb.rtF i m e (fun k => d[k]!))) := (show Hid _ from by rw [hd1]; exact hrt)
          have hw1 : Aside (SW enc w0 blk off d1 w1) := (show Aside _ from by rw [hd1, hw1e]; exact S1.out)
          rw [← hw1e]
          clear hd1 hw1e hrt S1
          by_cases c2 : a < i ∧ i < mid
          · have c2a : (a : Int) < (i : Int) := by omega
            have c2b : (i : Int) < (mid : Int) := by omega
            clear c2
            by_cases c3 : mid < e ∧ e < b
            · have c3a : (mid : Int) < (e : Int) := by omega
              have c3b : (e : Int) < (b : Int) := by omega
              clear c3
              rcases (show ¬ (i : Int) < (m : Int) ∨ ((i : Int) < (m : Int) ∧ ¬ (m : Int) < (e : Int)) by omega) with g1 | ⟨g1, g1'⟩
              · have C1 : Hid (SortedIn (ltOf cf) a i d1 ∧ SortedIn (ltOf cf) i mid d1 ∧ SortedIn (ltOf cf) mid e d1 ∧ SortedIn (ltOf cf) e b d1 ∧ ∀ x y, a ≤ x → x < mid → mid ≤ y → y < b → ltOf cf d1[y]! d1[x]! = false) :=
                  (show Hid _ from ⟨(Stb.sd_of hI1.out).2 CR.out.1, (Stb.sd_of hI1.out).2 CR.out.2.1, (Stb.sd_of hI1.out).2 CR.out.2.2.1, (Stb.sd_of hI1.out).2 CR.out.2.2.2.1, fun x y h1 h2 h3 h4 => by rw [hI1.out, hI1.out]; exact CR.out.2.2.2.2 x y h1 h2 h3 h4⟩)
                clear hI1 CR
                have hl := IH.out a i mid d1 w1 (by omega) (by omega) (by omega) (by omega) (by omega) hw1.out C1.out.1 C1.out.2.1
                rw [hs] at hl
                clear hw1
                go_wp2_with fail
                refine hl.mono ?_
                rintro ev w2 ⟨rfl, d2, hz2, hpl, hsl2, hwl⟩
                have hp2' : Hid (PermIn a mid d1 d2) := hpl
                have hs2' : Hid (SortedIn (ltOf cf) a mid d2) := hsl2
                have hw2 : Aside (SW enc w0 blk off d2 w2) := hwl
                clear hpl hsl2 hwl hl
                have C2 : Hid (SortedIn (ltOf cf) mid e d2 ∧ SortedIn (ltOf cf) e b d2) := (show Hid _ from ⟨C1.out.2.2.1.congr (fun i h1 h2 => hp2'.out.2.1 i (Or.inr h1)), C1.out.2.2.2.1.congr (fun i h1 h2 => hp2'.out.2.1 i (Or.inr (by omega)))⟩)
                have hl3 := IH.out mid e b d2 w2 (by omega) (by omega) (by omega) (by omega) (by omega) hw2.out C2.out.1 C2.out.2
                rw [hs] at hl3
                clear hw2
                go_wp2_with fail
                all_goals refine hl3.mono ?_
                all_goals rintro ev w3 ⟨rfl, d3, hz3, hpl3, hsl3, hwl3⟩
                all_goals go_wp2_with fail
                all_goals go_end0
                all_goals exact ⟨rfl, d3, by omega, permIn_trans _ _ _ _ _ hp1'.out (permIn_trans _ _ _ _ _ (permIn_mono _ _ _ _ _ _ (by omega) (by omega) (by omega) hp2'.out) (permIn_mono _ _ _ _ _ _ (by omega) (by omega) (by omega) hpl3)), Stb.fin (by omega) (by omega) (by omega) C1.out.2.2.2.2 hp2'.out hs2'.out hpl3 hsl3, hwl3⟩
              · have C1 : Hid (SortedIn (ltOf cf) a i d1 ∧ SortedIn (ltOf cf) i mid d1 ∧ SortedIn (ltOf cf) mid e d1 ∧ SortedIn (ltOf cf) e b d1 ∧ ∀ x y, a ≤ x → x < mid → mid ≤ y → y < b → ltOf cf d1[y]! d1[x]! = false) :=
                  (show Hid _ from ⟨(Stb.sd_of hI1.out).2 CR.out.1, (Stb.sd_of hI1.out).2 CR.out.2.1, (Stb.sd_of hI1.out).2 CR.out.2.2.1, (Stb.sd_of hI1.out).2 CR.out.2.2.2.1, fun x y h1 h2 h3 h4 => by rw [hI1.out, hI1.out]; exact CR.out.2.2.2.2 x y h1 h2 h3 h4⟩)
                clear hI1 CR
                have hl := IH.out a i mid d1 w1 (by omega) (by omega) (by omega) (by omega) (by omega) hw1.out C1.out.1 C1.out.2.1
                rw [hs] at hl
                clear hw1
                go_wp2_with fail
                refine hl.mono ?_
                rintro ev w2 ⟨rfl, d2, hz2, hpl, hsl2, hwl⟩
                have hp2' : Hid (PermIn a mid d1 d2) := hpl
                have hs2' : Hid (SortedIn (ltOf cf) a mid d2) := hsl2
                have hw2 : Aside (SW enc w0 blk off d2 w2) := hwl
                clear hpl hsl2 hwl hl
                have C2 : Hid (SortedIn (ltOf cf) mid e d2 ∧ SortedIn (ltOf cf) e b d2) := (show Hid _ from ⟨C1.out.2.2.1.congr (fun i h1 h2 => hp2'.out.2.1 i (Or.inr h1)), C1.out.2.2.2.1.congr (fun i h1 h2 => hp2'.out.2.1 i (Or.inr (by omega)))⟩)
                have hl3 := IH.out mid e b d2 w2 (by omega) (by omega) (by omega) (by omega) (by omega) hw2.out C2.out.1 C2.out.2
                rw [hs] at hl3
                clear hw2
                go_wp2_with fail
                all_goals refine hl3.mono ?_
                all_goals rintro ev w3 ⟨rfl, d3, hz3, hpl3, hsl3, hwl3⟩
                all_goals go_wp2_with fail
                all_goals go_end0
                all_goals exact ⟨rfl, d3, by omega, permIn_trans _ _ _ _ _ hp1'.out (permIn_trans _ _ _ _ _ (permIn_mono _ _ _ _ _ _ (by omega) (by omega) (by omega) hp2'.out) (permIn_mono _ _ _ _ _ _ (by omega) (by omega) (by omega) hpl3)), Stb.fin (by omega) (by omega) (by omega) C1.out.2.2.2.2 hp2'.out hs2'.out hpl3 hsl3, hwl3⟩
            · have c3a : ¬ ((mid : Int) < (e : Int) ∧ (e : Int) < (b : Int)) := by omega
              rcases (show ¬ (i : Int) < (m : Int) ∨ ((i : Int) < (m : Int) ∧ ¬ (m : Int) < (e : Int)) by omega) with g1 | ⟨g1, g1'⟩
              · have C1 : Hid (SortedIn (ltOf cf) a i d1 ∧ SortedIn (ltOf cf) i mid d1 ∧ SortedIn (ltOf cf) mid e d1 ∧ SortedIn (ltOf cf) e b d1 ∧ ∀ x y, a ≤ x → x < mid → mid ≤ y → y < b → ltOf cf d1[y]! d1[x]! = false) :=
                  (show Hid _ from ⟨(Stb.sd_of hI1.out).2 CR.out.1, (Stb.sd_of hI1.out).2 CR.out.2.1, (Stb.sd_of hI1.out).2 CR.out.2.2.1, (Stb.sd_of hI1.out).2 CR.out.2.2.2.1, fun x y h1 h2 h3 h4 => by rw [hI1.out, hI1.out]; exact CR.out.2.2.2.2 x y h1 h2 h3 h4⟩)
                clear hI1 CR
                have hl := IH.out a i mid d1 w1 (by omega) (by omega) (by omega) (by omega) (by omega) hw1.out C1.out.1 C1.out.2.1
                rw [hs] at hl
                clear hw1
                go_wp2_with fail
                refine hl.mono ?_
                rintro ev w2 ⟨rfl, d2, hz2, hpl, hsl2, hwl⟩
                have hp2' : Hid (PermIn a mid d1 d2) := hpl
                have hs2' : Hid (SortedIn (ltOf cf) a mid d2) := hsl2
                have hw2 : Aside (SW enc w0 blk off d2 w2) := hwl
                clear hpl hsl2 hwl hl
                have C2 : Hid (SortedIn (ltOf cf) mid e d2 ∧ SortedIn (ltOf cf) e b d2) := (show Hid _ from ⟨C1.out.2.2.1.congr (fun i h1 h2 => hp2'.out.2.1 i (Or.inr h1)), C1.out.2.2.2.1.congr (fun i h1 h2 => hp2'.out.2.1 i (Or.inr (by omega)))⟩)
                have hs3' : Hid (SortedIn (ltOf cf) mid b d2) := (show Hid _ from by
                  by_cases hq : mid < e
                  · have : e = b := by omega
                    have h3 := C2.out.1; rw [this] at h3; exact h3
                  · have : e = mid := by omega
                    have h3 := C2.out.2; rw [this] at h3; exact h3)
                go_wp2_with fail
                all_goals go_end0
                all_goals exact ⟨rfl, d2, by omega, permIn_trans _ _ _ _ _ hp1'.out (permIn_mono _ _ _ _ _ _ (by omega) (by omega) (by omega) hp2'.out), Stb.fin (by omega) (by omega) (by omega) C1.out.2.2.2.2 hp2'.out hs2'.out (permIn_refl _ _ _) hs3'.out, hw2.out⟩
              · have C1 : Hid (SortedIn (ltOf cf) a i d1 ∧ SortedIn (ltOf cf) i mid d1 ∧ SortedIn (ltOf cf) mid e d1 ∧ SortedIn (ltOf cf) e b d1 ∧ ∀ x y, a ≤ x → x < mid → mid ≤ y → y < b → ltOf cf d1[y]! d1[x]! = false) :=
                  (show Hid _ from ⟨(Stb.sd_of hI1.out).2 CR.out.1, (Stb.sd_of hI1.out).2 CR.out.2.1, (Stb.sd_of hI1.out).2 CR.out.2.2.1, (Stb.sd_of hI1.out).2 CR.out.2.2.2.1, fun x y h1 h2 h3 h4 => by rw [hI1.out, hI1.out]; exact CR.out.2.2.2.2 x y h1 h2 h3 h4⟩)
                clear hI1 CR
                have hl := IH.out a i mid d1 w1 (by omega) (by omega) (by omega) (by omega) (by omega) hw1.out C1.out.1 C1.out.2.1
                rw [hs] at hl
                clear hw1
                go_wp2_with fail
                refine hl.mono ?_
                rintro ev w2 ⟨rfl, d2, hz2, hpl, hsl2, hwl⟩
                have hp2' : Hid (PermIn a mid d1 d2) := hpl
                have hs2' : Hid (SortedIn (ltOf cf) a mid d2) := hsl2
                have hw2 : Aside (SW enc w0 blk off d2 w2) := hwl
                clear hpl hsl2 hwl hl
                have C2 : Hid (SortedIn (ltOf cf) mid e d2 ∧ SortedIn (ltOf cf) e b d2) := (show Hid _ from ⟨C1.out.2.2.1.congr (fun i h1 h2 => hp2'.out.2.1 i (Or.inr h1)), C1.out.2.2.2.1.congr (fun i h1 h2 => hp2'.out.2.1 i (Or.inr (by omega)))⟩)
                have hs3' : Hid (SortedIn (ltOf cf) mid b d2) := (show Hid _ from by
                  by_cases hq : mid < e
                  · have : e = b := by omega
                    have h3 := C2.out.1; rw [this] at h3; exact h3
                  · have : e = mid := by omega
                    have h3 := C2.out.2; rw [this] at h3; exact h3)
                go_wp2_with fail
                all_goals go_end0
                all_goals exact ⟨rfl, d2, by omega, permIn_trans _ _ _ _ _ hp1'.out (permIn_mono _ _ _ _ _ _ (by omega) (by omega) (by omega) hp2'.out), Stb.fin (by omega) (by omega) (by omega) C1.out.2.2.2.2 hp2'.out hs2'.out (permIn_refl _ _ _) hs3'.out, hw2.out⟩
          · have c2a : ¬ ((a : Int) < (i : Int) ∧ (i : Int) < (mid : Int)) := by omega
            by_cases c3 : mid < e ∧ e < b
            · have c3a : (mid : Int) < (e : Int) := by omega
              have c3b : (e : Int) < (b : Int) := by omega
              clear c3
              rcases (show ¬ (i : Int) < (m : Int) ∨ ((i : Int) < (m : Int) ∧ ¬ (m : Int) < (e : Int)) by omega) with g1 | ⟨g1, g1'⟩
              · have C1 : Hid (SortedIn (ltOf cf) a i d1 ∧ SortedIn (ltOf cf) i mid d1 ∧ SortedIn (ltOf cf) mid e d1 ∧ SortedIn (ltOf cf) e b d1 ∧ ∀ x y, a ≤ x → x < mid → mid ≤ y → y < b → ltOf cf d1[y]! d1[x]! = false) :=
                  (show Hid _ from ⟨(Stb.sd_of hI1.out).2 CR.out.1, (Stb.sd_of hI1.out).2 CR.out.2.1, (Stb.sd_of hI1.out).2 CR.out.2.2.1, (Stb.sd_of hI1.out).2 CR.out.2.2.2.1, fun x y h1 h2 h3 h4 => by rw [hI1.out, hI1.out]; exact CR.out.2.2.2.2 x y h1 h2 h3 h4⟩)
                clear hI1 CR
                obtain ⟨d2, hd2⟩ : ∃ d2, d2 = d1 := ⟨_, rfl⟩
                obtain ⟨w2, hw2e⟩ : ∃ w2, w2 = w1 := ⟨_, rfl⟩
                have hz2 : d2.size = d1.size := by rw [hd2]
                have hp2' : Hid (PermIn a mid d1 d2) := (show Hid _ from by rw [hd2]; exact permIn_refl _ _ _)
                have hs2' : Hid (SortedIn (ltOf cf) a mid d2) := (show Hid _ from by
                  rw [hd2]
                  by_cases hq : a < i
                  · have : i = mid := by omega
                    have h3 := C1.out.1; rw [this] at h3; exact h3
                  · have : i = a := by omega
                    have h3 := C1.out.2.1; rw [this] at h3; exact h3)
                have hw2 : Aside (SW enc w0 blk off d2 w2) := (show Aside _ from by rw [hd2, hw2e]; exact hw1.out)
                rw [← hw2e]
                clear hd2 hw2e hw1
                have C2 : Hid (SortedIn (ltOf cf) mid e d2 ∧ SortedIn (ltOf cf) e b d2) := (show Hid _ from ⟨C1.out.2.2.1.congr (fun i h1 h2 => hp2'.out.2.1 i (Or.inr h1)), C1.out.2.2.2.1.congr (fun i h1 h2 => hp2'.out.2.1 i (Or.inr (by omega)))⟩)
                have hl3 := IH.out mid e b d2 w2 (by omega) (by omega) (by omega) (by omega) (by omega) hw2.out C2.out.1 C2.out.2
                rw [hs] at hl3
                clear hw2
                go_wp2_with fail
                all_goals refine hl3.mono ?_
                all_goals rintro ev w3 ⟨rfl, d3, hz3, hpl3, hsl3, hwl3⟩
                all_goals go_wp2_with fail
                all_goals go_end0
                all_goals exact ⟨rfl, d3, by omega, permIn_trans _ _ _ _ _ hp1'.out (permIn_trans _ _ _ _ _ (permIn_mono _ _ _ _ _ _ (by omega) (by omega) (by omega) hp2'.out) (permIn_mono _ _ _ _ _ _ (by omega) (by omega) (by omega) hpl3)), Stb.fin (by omega) (by omega) (by omega) C1.out.2.2.2.2 hp2'.out hs2'.out hpl3 hsl3, hwl3⟩
              · have C1 : Hid (SortedIn (ltOf cf) a i d1 ∧ SortedIn (ltOf cf) i mid d1 ∧ SortedIn (ltOf cf) mid e d1 ∧ SortedIn (ltOf cf) e b d1 ∧ ∀ x y, a ≤ x → x < mid → mid ≤ y → y < b → ltOf cf d1[y]! d1[x]! = false) :=
                  (show Hid _ from ⟨(Stb.sd_of hI1.out).2 CR.out.1, (Stb.sd_of hI1.out).2 CR.out.2.1, (Stb.sd_of hI1.out).2 CR.out.2.2.1, (Stb.sd_of hI1.out).2 CR.out.2.2.2.1, fun x y h1 h2 h3 h4 => by rw [hI1.out, hI1.out]; exact CR.out.2.2.2.2 x y h1 h2 h3 h4⟩)
                clear hI1 CR
                obtain ⟨d2, hd2⟩ : ∃ d2, d2 = d1 := ⟨_, rfl⟩
                obtain ⟨w2, hw2e⟩ : ∃ w2, w2 = w1 := ⟨_, rfl⟩
                have hz2 : d2.size = d1.size := by rw [hd2]
                have hp2' : Hid (PermIn a mid d1 d2) := (show Hid _ from by rw [hd2]; exact permIn_refl _ _ _)
                have hs2' : Hid (SortedIn (ltOf cf) a mid d2) := (show Hid _ from by
                  rw [hd2]
                  by_cases hq : a < i
                  · have : i = mid := by omega
                    have h3 := C1.out.1; rw [this] at h3; exact h3
                  · have : i = a := by omega
                    have h3 := C1.out.2.1; rw [this] at h3; exact h3)
                have hw2 : Aside (SW enc w0 blk off d2 w2) := (show Aside _ from by rw [hd2, hw2e]; exact hw1.out)
                rw [← hw2e]
                clear hd2 hw2e hw1
                have C2 : Hid (SortedIn (ltOf cf) mid e d2 ∧ SortedIn (ltOf cf) e b d2) := (show Hid _ from ⟨C1.out.2.2.1.congr (fun i h1 h2 => hp2'.out.2.1 i (Or.inr h1)), C1.out.2.2.2.1.congr (fun i h1 h2 => hp2'.out.2.1 i (Or.inr (by omega)))⟩)
                have hl3 := IH.out mid e b d2 w2 (by omega) (by omega) (by omega) (by omega) (by omega) hw2.out C2.out.1 C2.out.2
                rw [hs] at hl3
                clear hw2
                go_wp2_with fail
                all_goals refine hl3.mono ?_
                all_goals rintro ev w3 ⟨rfl, d3, hz3, hpl3, hsl3, hwl3⟩
                all_goals go_wp2_with fail
                all_goals go_end0
                all_goals exact ⟨rfl, d3, by omega, permIn_trans _ _ _ _ _ hp1'.out (permIn_trans _ _ _ _ _ (permIn_mono _ _ _ _ _ _ (by omega) (by omega) (by omega) hp2'.out) (permIn_mono _ _ _ _ _ _ (by omega) (by omega) (by omega) hpl3)), Stb.fin (by omega) (by omega) (by omega) C1.out.2.2.2.2 hp2'.out hs2'.out hpl3 hsl3, hwl3⟩
            · have c3a : ¬ ((mid : Int) < (e : Int) ∧ (e : Int) < (b : Int)) := by omega
              rcases (show ¬ (i : Int) < (m : Int) ∨ ((i : Int) < (m : Int) ∧ ¬ (m : Int) < (e : Int)) by omega) with g1 | ⟨g1, g1'⟩
              · have C1 : Hid (SortedIn (ltOf cf) a i d1 ∧ SortedIn (ltOf cf) i mid d1 ∧ SortedIn (ltOf cf) mid e d1 ∧ SortedIn (ltOf cf) e b d1 ∧ ∀ x y, a ≤ x → x < mid → mid ≤ y → y < b → ltOf cf d1[y]! d1[x]! = false) :=
                  (show Hid _ from ⟨(Stb.sd_of hI1.out).2 CR.out.1, (Stb.sd_of hI1.out).2 CR.out.2.1, (Stb.sd_of hI1.out).2 CR.out.2.2.1, (Stb.sd_of hI1.out).2 CR.out.2.2.2.1, fun x y h1 h2 h3 h4 => by rw [hI1.out, hI1.out]; exact CR.out.2.2.2.2 x y h1 h2 h3 h4⟩)
                clear hI1 CR
                obtain ⟨d2, hd2⟩ : ∃ d2, d2 = d1 := ⟨_, rfl⟩
                obtain ⟨w2, hw2e⟩ : ∃ w2, w2 = w1 := ⟨_, rfl⟩
                have hz2 : d2.size = d1.size := by rw [hd2]
                have hp2' : Hid (PermIn a mid d1 d2) := (show Hid _ from by rw [hd2]; exact permIn_refl _ _ _)
                have hs2' : Hid (SortedIn (ltOf cf) a mid d2) := (show Hid _ from by
                  rw [hd2]
                  by_cases hq : a < i
                  · have : i = mid := by omega
                    have h3 := C1.out.1; rw [this] at h3; exact h3
                  · have : i = a := by omega
                    have h3 := C1.out.2.1; rw [this] at h3; exact h3)
                have hw2 : Aside (SW enc w0 blk off d2 w2) := (show Aside _ from by rw [hd2, hw2e]; exact hw1.out)
                rw [← hw2e]
                clear hd2 hw2e hw1
                have C2 : Hid (SortedIn (ltOf cf) mid e d2 ∧ SortedIn (ltOf cf) e b d2) := (show Hid _ from ⟨C1.out.2.2.1.congr (fun i h1 h2 => hp2'.out.2.1 i (Or.inr h1)), C1.out.2.2.2.1.congr (fun i h1 h2 => hp2'.out.2.1 i (Or.inr (by omega)))⟩)
                have hs3' : Hid (SortedIn (ltOf cf) mid b d2) := (show Hid _ from by
                  by_cases hq : mid < e
                  · have : e = b := by omega
                    have h3 := C2.out.1; rw [this] at h3; exact h3
                  · have : e = mid := by omega
                    have h3 := C2.out.2; rw [this] at h3; exact h3)
                go_wp2_with fail
                all_goals go_end0
                all_goals exact ⟨rfl, d2, by omega, permIn_trans _ _ _ _ _ hp1'.out (permIn_mono _ _ _ _ _ _ (by omega) (by omega) (by omega) hp2'.out), Stb.fin (by omega) (by omega) (by omega) C1.out.2.2.2.2 hp2'.out hs2'.out (permIn_refl _ _ _) hs3'.out, hw2.out⟩
              · have C1 : Hid (SortedIn (ltOf cf) a i d1 ∧ SortedIn (ltOf cf) i mid d1 ∧ SortedIn (ltOf cf) mid e d1 ∧ SortedIn (ltOf cf) e b d1 ∧ ∀ x y, a ≤ x → x < mid → mid ≤ y → y < b → ltOf cf d1[y]! d1[x]! = false) :=
                  (show Hid _ from ⟨(Stb.sd_of hI1.out).2 CR.out.1, (Stb.sd_of hI1.out).2 CR.out.2.1, (Stb.sd_of hI1.out).2 CR.out.2.2.1, (Stb.sd_of hI1.out).2 CR.out.2.2.2.1, fun x y h1 h2 h3 h4 => by rw [hI1.out, hI1.out]; exact CR.out.2.2.2.2 x y h1 h2 h3 h4⟩)
                clear hI1 CR
                obtain ⟨d2, hd2⟩ : ∃ d2, d2 = d1 := ⟨_, rfl⟩
                obtain ⟨w2, hw2e⟩ : ∃ w2, w2 = w1 := ⟨_, rfl⟩
                have hz2 : d2.size = d1.size := by rw [hd2]
                have hp2' : Hid (PermIn a mid d1 d2) := (show Hid _ from by rw [hd2]; exact permIn_refl _ _ _)
                have hs2' : Hid (SortedIn (ltOf cf) a mid d2) := (show Hid _ from by
                  rw [hd2]
                  by_cases hq : a < i
                  · have : i = mid := by omega
                    have h3 := C1.out.1; rw [this] at h3; exact h3
                  · have : i = a := by omega
                    have h3 := C1.out.2.1; rw [this] at h3; exact h3)
                have hw2 : Aside (SW enc w0 blk off d2 w2) := (show Aside _ from by rw [hd2, hw2e]; exact hw1.out)
                rw [← hw2e]
                clear hd2 hw2e hw1
                have C2 : Hid (SortedIn (ltOf cf) mid e d2 ∧ SortedIn (ltOf cf) e b d2) := (show Hid _ from ⟨C1.out.2.2.1.congr (fun i h1 h2 => hp2'.out.2.1 i (Or.inr h1)), C1.out.2.2.2.1.congr (fun i h1 h2 => hp2'.out.2.1 i (Or.inr (by omega)))⟩)
                have hs3' : Hid (SortedIn (ltOf cf) mid b d2) := (show Hid _ from by
                  by_cases hq : mid < e
                  · have : e = b := by omega
                    have h3 := C2.out.1; rw [this] at h3; exact h3
                  · have : e = mid := by omega
                    have h3 := C2.out.2; rw [this] at h3; exact h3)
                go_wp2_with fail
                all_goals go_end0
                all_goals exact ⟨rfl, d2, by omega, permIn_trans _ _ _ _ _ hp1'.out (permIn_mono _ _ _ _ _ _ (by omega) (by omega) (by omega) hp2'.out), Stb.fin (by omega) (by omega) (by omega) C1.out.2.2.2.2 hp2'.out hs2'.out (permIn_refl _ _ _) hs3'.out, hw2.out⟩
  · have hmz : ¬ (mid : Int) < (m : Int) := by omega
    go_enter Try.func93, Try.ntmps93
    go_wp2
    go_loopg [20, 21] (m - a) (fun g1 vi vj wr => ∃ (i j : Nat), vi = .int .i64 i ∧ vj = .int .i64 j ∧ a ≤ i ∧ i ≤ j ∧ j ≤ m ∧ j - i ≤ g1 ∧ Aside (SW enc w0 blk off d wr) ∧ Hid ((a < i → ltOf cf d[p - (i - 1)]! d[i - 1]! = false) ∧ (j < m → ltOf cf d[p - j]! d[j]! = true)))
    case atStart => exact ⟨a, m, by go_num, by go_num, by omega, by omega, by omega, by omega, S0, (show Hid _ from ⟨fun h => by omega, fun h => by omega⟩)⟩
    case round =>
      clear S0
      obtain ⟨i, j, rfl, rfl, hi, hij, hj, hg1, S1, HO⟩ := hrel
      by_cases hlt : i < j
      · have hltz : (i : Int) < (j : Int) := by omega
        go_wp2_with fail
        obtain ⟨h, hh⟩ : ∃ h, h = (i + j) / 2 := ⟨_, rfl⟩
        have eh : ((i : Int) + (j : Int)) / 2 = (h : Int) := by omega
        rw [eh]
        clear eh
        have hb1 : i ≤ h ∧ h < j := by omega
        clear hh
        obtain ⟨q, hq⟩ : ∃ q, q + h = p := ⟨p - h, by omega⟩
        have epq : (p : Int) - (h : Int) = (q : Int) := by omega
        have bq : (q : Int) < (d.size : Int) := by omega
        have rq : IntKind.i64.wrap (q : Int) = (q : Int) := by rw [IntKind.wrap_i64]; omega
        have HQ : Aside (p - h = q) := (show Aside _ from by show p - h = q; omega)
        clear hq
        have bh : (h : Int) < (d.size : Int) := by omega
        obtain ⟨x, hx⟩ : ∃ x, x = d[q]! := ⟨_, rfl⟩
        obtain ⟨y, hy⟩ : ∃ x, x = d[h]! := ⟨_, rfl⟩
        have la := S1.out.cl R hs.symm q (by omega)
        have lb := S1.out.cl R hs.symm h (by omega)
        rw [← hx] at la
        rw [← hy] at lb
        have hcc := S1.out.cmp HC.out hs.symm x y
        by_cases hv : cf x y < 0
        · have hd : decide (cf x y < 0) = true := decide_eq_true hv
          have HO2 : Hid ((a < i → ltOf cf d[p - (i - 1)]! d[i - 1]! = false) ∧ (h < m → ltOf cf d[p - h]! d[h]! = true)) :=
            (show Hid _ from ⟨HO.out.1, fun _ => by rw [HQ.out, ← hx, ← hy]; exact hd⟩)
          clear HO hx hy HQ
          go_quiet_grown (first | (go_at_fn g; refine Calls.grown_of (hcc _ _)))
          have S2 : Aside (SW enc w0 blk off d (grow (wr.drewN nq) osq)) := S1.out.grown nq osq
          clear la lb hcc S1
          generalize grow (wr.drewN nq) osq = w2 at S2 ⊢
          clear nq osq
          go_wp2
          go_roundg (h - i)
          case measure => omega
          case rel => exact ⟨i, h, rfl, by go_num, by omega, by omega, by omega, by omega, S2, HO2⟩
        · have hd : decide (cf x y < 0) = false := decide_eq_false hv
          have HO2 : Hid ((a < h + 1 → ltOf cf d[p - (h + 1 - 1)]! d[h + 1 - 1]! = false) ∧ (j < m → ltOf cf d[p - j]! d[j]! = true)) :=
            (show Hid _ from ⟨fun _ => by rw [Nat.add_sub_cancel, HQ.out, ← hx, ← hy]; exact hd, HO.out.2⟩)
          clear HO hx hy HQ
          go_quiet_grown (first | (go_at_fn g; refine Calls.grown_of (hcc _ _)))
          have S2 : Aside (SW enc w0 blk off d (grow (wr.drewN nq) osq)) := S1.out.grown nq osq
          clear la lb hcc S1
          generalize grow (wr.drewN nq) osq = w2 at S2 ⊢
          clear nq osq
          go_wp2
          go_roundg (j - (h + 1))
          case measure => omega
          case rel => exact ⟨h + 1, j, by go_num, rfl, by omega, by omega, by omega, by omega, S2, HO2⟩
      · have hltz : ¬ (i : Int) < (j : Int) := by omega
        obtain rfl : i = j := by omega
        obtain ⟨e, he⟩ : ∃ e, e + i = n := ⟨n - i, by omega⟩
        have ee : (n : Int) - (i : Int) = (e : Int) := by omega
        have he1 : e + i ≤ n := by omega
        have he2 : n ≤ e + i := by omega
        have CU : Hid (Stb.Cut (ltOf cf) (fun k => d[k]!) a m b i e) := (show Hid _ from ⟨by omega, by omega, by omega, by have := HMID.out; omega,
          fun h1 h2 => by have := HO.out.1 (by omega); rw [show p - (i - 1) = e by omega] at this; exact this,
          fun h1 h2 => by have := HO.out.2 (by omega); rw [show p - i = e - 1 by omega] at this; exact this⟩)
        have CR : Hid _ := CU.out.cross hO ((Stb.sd_of (fun k => rfl)).1 HL.out) ((Stb.sd_of (fun k => rfl)).1 HR.out)
        rw [← HMID.out] at CR
        clear he HO CU
        by_cases c1 : i < m ∧ m < e
        · have hrc := rotate_s enc g cb blk off cap i m e d0 d w0 wr R hs S1.out c1.1 c1.2 (by omega) hsz
          have c1a : (i : Int) < (m : Int) := by omega
          have c1b : (m : Int) < (e : Int) := by omega
          by_cases c2 : a < i ∧ i < mid
          · have c2a : (a : Int) < (i : Int) := by omega
            have c2b : (i : Int) < (mid : Int) := by omega
            clear c2
            by_cases c3 : mid < e ∧ e < b
            · have c3a : (mid : Int) < (e : Int) := by omega
              have c3b : (e : Int) < (b : Int) := by omega
              clear c3
              go_wp2_with fail
              refine hrc.mono ?_
              rintro ev w1 ⟨rfl, d1, hz1, hpr, hIr, hwr⟩
              clear c1
              have hp1' : Hid (PermIn a b d d1) := (show Hid _ from permIn_mono _ _ _ _ _ _ (by omega) (by omega) (by omega) hpr)
              have hI1 : Hid (Stb.Is d1 (Stb.rtF i m e (fun k => d[k]!))) := hIr
              have hw1 : Aside (SW enc w0 blk off d1 w1) := hwr
              clear hpr hIr hwr hrc S1
              have C1 : Hid (SortedIn (ltOf cf) a i d1 ∧ SortedIn (ltOf cf) i mid d1 ∧ SortedIn (ltOf cf) mid e d1 ∧ SortedIn (ltOf cf) e b d1 ∧ ∀ x y, a ≤ x → x < mid → mid ≤ y → y < b → ltOf cf d1[y]! d1[x]! = false) :=
                (show Hid _ from ⟨(Stb.sd_of hI1.out).2 CR.out.1, (Stb.sd_of hI1.out).2 CR.out.2.1, (Stb.sd_of hI1.out).2 CR.out.2.2.1, (Stb.sd_of hI1.out).2 CR.out.2.2.2.1, fun x y h1 h2 h3 h4 => by rw [hI1.out, hI1.out]; exact CR.out.2.2.2.2 x y h1 h2 h3 h4⟩)
              clear hI1 CR
              have hl := IH.out a i mid d1 w1 (by omega) (by omega) (by omega) (by omega) (by omega) hw1.out C1.out.1 C1.out.2.1
              rw [hs] at hl
              clear hw1
              go_wp2_with fail
              refine hl.mono ?_
              rintro ev w2 ⟨rfl, d2, hz2, hpl, hsl2, hwl⟩
              have hp2' : Hid (PermIn a mid d1 d2) := hpl
              have hs2' : Hid (SortedIn (ltOf cf) a mid d2) := hsl2
              have hw2 : Aside (SW enc w0 blk off d2 w2) := hwl
              clear hpl hsl2 hwl hl
              have C2 : Hid (SortedIn (ltOf cf) mid e d2 ∧ SortedIn (ltOf cf) e b d2) := (show Hid _ from ⟨C1.out.2.2.1.congr (fun i h1 h2 => hp2'.out.2.1 i (Or.inr h1)), C1.out.2.2.2.1.congr (fun i h1 h2 => hp2'.out.2.1 i (Or.inr (by omega)))⟩)
              have hl3 := IH.out mid e b d2 w2 (by omega) (by omega) (by omega) (by omega) (by omega) hw2.out C2.out.1 C2.out.2
              rw [hs] at hl3
              clear hw2
              go_wp2_with fail
              all_goals refine hl3.mono ?_
              all_goals rintro ev w3 ⟨rfl, d3, hz3, hpl3, hsl3, hwl3⟩
              all_goals go_wp2_with fail
              all_goals go_end0
              all_goals exact ⟨rfl, d3, by omega, permIn_trans _ _ _ _ _ hp1'.out (permIn_trans _ _ _ _ _ (permIn_mono _ _ _ _ _ _ (by omega) (by omega) (by omega) hp2'.out) (permIn_mono _ _ _ _ _ _ (by omega) (by omega) (by omega) hpl3)), Stb.fin (by omega) (by omega) (by omega) C1.out.2.2.2.2 hp2'.out hs2'.out hpl3 hsl3, hwl3⟩
            · have c3a : ¬ ((mid : Int) < (e : Int) ∧ (e : Int) < (b : Int)) := by omega
              go_wp2_with fail
              refine hrc.mono ?_
              rintro ev w1 ⟨rfl, d1, hz1, hpr, hIr, hwr⟩
              clear c1
              have hp1' : Hid (PermIn a b d d1) := (show Hid _ from permIn_mono _ _ _ _ _ _ (by omega) (by omega) (by omega) hpr)
              have hI1 : Hid (Stb.Is d1 (Stb.rtF i m e (fun k => d[k]!))) := hIr
              have hw1 : Aside (SW enc w0 blk off d1 w1) := hwr
              clear hpr hIr hwr hrc S1
              have C1 : Hid (SortedIn (ltOf cf) a i d1 ∧ SortedIn (ltOf cf) i mid d1 ∧ SortedIn (ltOf cf) mid e d1 ∧ SortedIn (ltOf cf) e b d1 ∧ ∀ x y, a ≤ x → x < mid → mid ≤ y → y < b → ltOf cf d1[y]! d1[x]! = false) :=
                (show Hid _ from ⟨(Stb.sd_of hI1.out).2 CR.out.1, (Stb.sd_of hI1.out).2 CR.out.2.1, (Stb.sd_of hI1.out).2 CR.out.2.2.1, (Stb.sd_of hI1.out).2 CR.out.2.2.2.1, fun x y h1 h2 h3 h4 => by rw [hI1.out, hI1.out]; exact CR.out.2.2.2.2 x y h1 h2 h3 h4⟩)
              clear hI1 CR
              have hl := IH.out a i mid d1 w1 (by omega) (by omega) (by omega) (by omega) (by omega) hw1.out C1.out.1 C1.out.2.1
              rw [hs] at hl
              clear hw1
              go_wp2_with fail
              refine hl.mono ?_
              rintro ev w2 ⟨rfl, d2, hz2, hpl, hsl2, hwl⟩
              have hp2' : Hid (PermIn a mid d1 d2) := hpl
              have hs2' : Hid (SortedIn (ltOf cf) a mid d2) := hsl2
              have hw2 : Aside (SW enc w0 blk off d2 w2) := hwl
              clear hpl hsl2 hwl hl
              have C2 : Hid (SortedIn (ltOf cf) mid e d2 ∧ SortedIn (ltOf cf) e b d2) := (show Hid _ from ⟨C1.out.2.2.1.congr (fun i h1 h2 => hp2'.out.2.1 i (Or.inr h1)), C1.out.2.2.2.1.congr (fun i h1 h2 => hp2'.out.2.1 i (Or.inr (by omega)))⟩)
              have hs3' : Hid (SortedIn (ltOf cf) mid b d2) := (show Hid _ from by
                by_cases hq : mid < e
                · have : e = b := by omega
                  have h3 := C2.out.1; rw [this] at h3; exact h3
                · have : e = mid := by omega
                  have h3 := C2.out.2; rw [this] at h3; exact h3)
              go_wp2_with fail
              all_goals go_end0
              all_goals exact ⟨rfl, d2, by omega, permIn_trans _ _ _ _ _ hp1'.out (permIn_mono _ _ _ _ _ _ (by omega) (by omega) (by omega) hp2'.out), Stb.fin (by omega) (by omega) (by omega) C1.out.2.2.2.2 hp2'.out hs2'.out (permIn_refl _ _ _) hs3'.out, hw2.out⟩
          · have c2a : ¬ ((a : Int) < (i : Int) ∧ (i : Int) < (mid : Int)) := by omega
            by_cases c3 : mid < e ∧ e < b
            · have c3a : (mid : Int) < (e : Int) := by omega
              have c3b : (e : Int) < (b : Int) := by omega
              clear c3
              go_wp2_with fail
              refine hrc.mono ?_
              rintro ev w1 ⟨rfl, d1, hz1, hpr, hIr, hwr⟩
              clear c1
              have hp1' : Hid (PermIn a b d d1) := (show Hid _ from permIn_mono _ _ _ _ _ _ (by omega) (by omega) (by omega) hpr)
              have hI1 : Hid (Stb.Is d1 (Stb.rtF i m e (fun k => d[k]!))) := hIr
              have hw1 : Aside (SW enc w0 blk off d1 w1) := hwr
              clear hpr hIr hwr hrc S1
              have C1 : Hid (SortedIn (ltOf cf) a i d1 ∧ SortedIn (ltOf cf) i mid d1 ∧ SortedIn (ltOf cf) mid e d1 ∧ SortedIn (ltOf cf) e b d1 ∧ ∀ x y, a ≤ x → x < mid → mid ≤ y → y < b → ltOf cf d1[y]! d1[x]! = false) :=
                (show Hid _ from ⟨(Stb.sd_of hI1.out).2 CR.out.1, (Stb.sd_of hI1.out).2 CR.out.2.1, (Stb.sd_of hI1.out).2 CR.out.2.2.1, (Stb.sd_of hI1.out).2 CR.out.2.2.2.1, fun x y h1 h2 h3 h4 => by rw [hI1.out, hI1.out]; exact CR.out.2.2.2.2 x y h1 h2 h3 h4⟩)
              clear hI1 CR
              obtain ⟨d2, hd2⟩ : ∃ d2, d2 = d1 := ⟨_, rfl⟩
              obtain ⟨w2, hw2e⟩ : ∃ w2, w2 = w1 := ⟨_, rfl⟩
              have hz2 : d2.size = d1.size := by rw [hd2]
              have hp2' : Hid (PermIn a mid d1 d2) := (show Hid _ from by rw [hd2]; exact permIn_refl _ _ _)
              have hs2' : Hid (SortedIn (ltOf cf) a mid d2) := (show Hid _ from by
                rw [hd2]
                by_cases hq : a < i
                · have : i = mid := by omega
                  have h3 := C1.out.1; rw [this] at h3; exact h3
                · have : i = a := by omega
                  have h3 := C1.out.2.1; rw [this] at h3; exact h3)
              have hw2 : Aside (SW enc w0 blk off d2 w2) := (show Aside _ from by rw [hd2, hw2e]; exact hw1.out)
              rw [← hw2e]
              clear hd2 hw2e hw1
              have C2 : Hid (SortedIn (ltOf cf) mid e d2 ∧ SortedIn (ltOf cf) e b d2) := (show Hid _ from ⟨C1.out.2.2.1.congr (fun i h1 h2 => hp2'.out.2.1 i (Or.inr h1)), C1.out.2.2.2.1.congr (fun i h1 h2 => hp2'.out.2.1 i (Or.inr (by omega)))⟩)
              have hl3 := IH.out mid e b d2 w2 (by omega) (by omega) (by omega) (by omega) (by omega) hw2.out C2.out.1 C2.out.2
              rw [hs] at hl3
              clear hw2
              go_wp2_with fail
              all_goals refine hl3.mono ?_
              all_goals rintro ev w3 ⟨rfl, d3, hz3, hpl3, hsl3, hwl3⟩
              all_goals go_wp2_with fail
              all_goals go_end0
              all_goals exact ⟨rfl, d3, by omega, permIn_trans _ _ _ _ _ hp1'.out (permIn_trans _ _ _ _ _ (permIn_mono _ _ _ _ _ _ (by omega) (by omega) (by omega) hp2'.out) (permIn_mono _ _ _ _ _ _ (by omega) (by omega) (by omega) hpl3)), Stb.fin (by omega) (by omega) (by omega) C1.out.2.2.2.2 hp2'.out hs2'.out hpl3 hsl3, hwl3⟩
            · have c3a : ¬ ((mid : Int) < (e : Int) ∧ (e : Int) < (b : Int)) := by omega
              go_wp2_with fail
              refine hrc.mono ?_
              rintro ev w1 ⟨rfl, d1, hz1, hpr, hIr, hwr⟩
              clear c1
              have hp1' : Hid (PermIn a b d d1) := (show Hid _ from permIn_mono _ _ _ _ _ _ (by omega) (by omega) (by omega) hpr)
              have hI1 : Hid (Stb.Is d1 (Stb.rtF i m e (fun k => d[k]!))) := hIr
              have hw1 : Aside (SW enc w0 blk off d1 w1) := hwr
              clear hpr hIr hwr hrc S1
              have C1 : Hid (SortedIn (ltOf cf) a i d1 ∧ SortedIn (ltOf cf) i mid d1 ∧ SortedIn (ltOf cf) mid e d1 ∧ SortedIn (ltOf cf) e b d1 ∧ ∀ x y, a ≤ x → x < mid → mid ≤ y → y < b → ltOf cf d1[y]! d1[x]! = false) :=
                (show Hid _ from ⟨(Stb.sd_of hI1.out).2 CR.out.1, (Stb.sd_of hI1.out).2 CR.out.2.1, (Stb.sd_of hI1.out).2 CR.out.2.2.1, (Stb.sd_of hI1.out).2 CR.out.2.2.2.1, fun x y h1 h2 h3 h4 => by rw [hI1.out, hI1.out]; exact CR.out.2.2.2.2 x y h1 h2 h3 h4⟩)
              clear hI1 CR
              obtain ⟨d2, hd2⟩ : ∃ d2, d2 = d1 := ⟨_, rfl⟩
              obtain ⟨w2, hw2e⟩ : ∃ w2, w2 = w1 := ⟨_, rfl⟩
              have hz2 : d2.size = d1.size := by rw [hd2]
              have hp2' : Hid (PermIn a mid d1 d2) := (show Hid _ from by rw [hd2]; exact permIn_refl _ _ _)
              have hs2' : Hid (SortedIn (ltOf cf) a mid d2) := (show Hid _ from by
                rw [hd2]
                by_cases hq : a < i
                · have : i = mid := by omega
                  have h3 := C1.out.1; rw [this] at h3; exact h3
                · have : i = a := by omega
                  have h3 := C1.out.2.1; rw [this] at h3; exact h3)
              have hw2 : Aside (SW enc w0 blk off d2 w2) := (show Aside _ from by rw [hd2, hw2e]; exact hw1.out)
              rw [← hw2e]
              clear hd2 hw2e hw1
              have C2 : Hid (SortedIn (ltOf cf) mid e d2 ∧ SortedIn (ltOf cf) e b d2) := (show Hid _ from ⟨C1.out.2.2.1.congr (fun i h1 h2 => hp2'.out.2.1 i (Or.inr h1)), C1.out.2.2.2.1.congr (fun i h1 h2 => hp2'.out.2.1 i (Or.inr (by omega)))⟩)
              have hs3' : Hid (SortedIn (ltOf cf) mid b d2) := (show Hid _ from by
                by_cases hq : mid < e
                · have : e = b := by omega
                  have h3 := C2.out.1; rw [this] at h3; exact h3
                · have : e = mid := by omega
                  have h3 := C2.out.2; rw [this] at h3; exact h3)
              go_wp2_with fail
              all_goals go_end0
              all_goals exact ⟨rfl, d2, by omega, permIn_trans _ _ _ _ _ hp1'.out (permIn_mono _ _ _ _ _ _ (by omega) (by omega) (by omega) hp2'.out), Stb.fin (by omega) (by omega) (by omega) C1.out.2.2.2.2 hp2'.out hs2'.out (permIn_refl _ _ _) hs3'.out, hw2.out⟩
        · have c1a : ¬ ((i : Int) < (m : Int) ∧ (m : Int) < (e : Int)) := by omega
          have hrt : Stb.Is d (Stb.rtF i m e (fun k => d[k]!)) := by
            intro k
            by_cases hq : i < m
            · rw [show e = m by omega, Stb.rt_id2]
            · rw [show i = m by omega, Stb.rt_id1]
          obtain ⟨d1, hd1⟩ : ∃ d1, d1 = d := ⟨_, rfl⟩
          obtain ⟨w1, hw1e⟩ : ∃ w1, w1 = wr := ⟨_, rfl⟩
          have hz1 : d1.size = d.size := by rw [hd1]
          have hp1' : Hid (PermIn a b d d1) := (show Hid _ from by rw [hd1]; exact permIn_refl _ _ _)
          have hI1 : Hid (Stb.Is d1 (Stb.rtF i m e (fun k => d[k]!))) := (show Hid _ from by rw [hd1]; exact hrt)
          have hw1 : Aside (SW enc w0 blk off d1 w1) := (show Aside _ from by rw [hd1, hw1e]; exact S1.out)
          rw [← hw1e]
          clear hd1 hw1e hrt S1
          by_cases c2 : a < i ∧ i < mid
          · have c2a : (a : Int) < (i : Int) := by omega
            have c2b : (i : Int) < (mid : Int) := by omega
            clear c2
            by_cases c3 : mid < e ∧ e < b
            · have c3a : (mid : Int) < (e : Int) := by omega
              have c3b : (e : Int) < (b : Int) := by omega
              clear c3
              rcases (show ¬ (i : Int) < (m : Int) ∨ ((i : Int) < (m : Int) ∧ ¬ (m : Int) < (e : Int)) by omega) with g1 | ⟨g1, g1'⟩
              · have C1 : Hid (SortedIn (ltOf cf) a i d1 ∧ SortedIn (ltOf cf) i mid d1 ∧ SortedIn (ltOf cf) mid e d1 ∧ SortedIn (ltOf cf) e b d1 ∧ ∀ x y, a ≤ x → x < mid → mid ≤ y → y < b → ltOf cf d1[y]! d1[x]! = false) :=
                  (show Hid _ from ⟨(Stb.sd_of hI1.out).2 CR.out.1, (Stb.sd_of hI1.out).2 CR.out.2.1, (Stb.sd_of hI1.out).2 CR.out.2.2.1, (Stb.sd_of hI1.out).2 CR.out.2.2.2.1, fun x y h1 h2 h3 h4 => by rw [hI1.out, hI1.out]; exact CR.out.2.2.2.2 x y h1 h2 h3 h4⟩)
                clear hI1 CR
                have hl := IH.out a i mid d1 w1 (by omega) (by omega) (by omega) (by omega) (by omega) hw1.out C1.out.1 C1.out.2.1
                rw [hs] at hl
                clear hw1
                go_wp2_with fail
                refine hl.mono ?_
                rintro ev w2 ⟨rfl, d2, hz2, hpl, hsl2, hwl⟩
                have hp2' : Hid (PermIn a mid d1 d2) := hpl
                have hs2' : Hid (SortedIn (ltOf cf) a mid d2) := hsl2
                have hw2 : Aside (SW enc w0 blk off d2 w2) := hwl
                clear hpl hsl2 hwl hl
                have C2 : Hid (SortedIn (ltOf cf) mid e d2 ∧ SortedIn (ltOf cf) e b d2) := (show Hid _ from ⟨C1.out.2.2.1.congr (fun i h1 h2 => hp2'.out.2.1 i (Or.inr h1)), C1.out.2.2.2.1.congr (fun i h1 h2 => hp2'.out.2.1 i (Or.inr (by omega)))⟩)
                have hl3 := IH.out mid e b d2 w2 (by omega) (by omega) (by omega) (by omega) (by omega) hw2.out C2.out.1 C2.out.2
                rw [hs] at hl3
                clear hw2
                go_wp2_with fail
                all_goals refine hl3.mono ?_
                all_goals rintro ev w3 ⟨rfl, d3, hz3, hpl3, hsl3, hwl3⟩
                all_goals go_wp2_with fail
                all_goals go_end0
                all_goals exact ⟨rfl, d3, by omega, permIn_trans _ _ _ _ _ hp1'.out (permIn_trans _ _ _ _ _ (permIn_mono _ _ _ _ _ _ (by omega) (by omega) (by omega) hp2'.out) (permIn_mono _ _ _ _ _ _ (by omega) (by omega) (by omega) hpl3)), Stb.fin (by omega) (by omega) (by omega) C1.out.2.2.2.2 hp2'.out hs2'.out hpl3 hsl3, hwl3⟩
              · have C1 : Hid (SortedIn (ltOf cf) a i d1 ∧ SortedIn (ltOf cf) i mid d1 ∧ SortedIn (ltOf cf) mid e d1 ∧ SortedIn (ltOf cf) e b d1 ∧ ∀ x y, a ≤ x → x < mid → mid ≤ y → y < b → ltOf cf d1[y]! d1[x]! = false) :=
                  (show Hid _ from ⟨(Stb.sd_of hI1.out).2 CR.out.1, (Stb.sd_of hI1.out).2 CR.out.2.1, (Stb.sd_of hI1.out).2 CR.out.2.2.1, (Stb.sd_of hI1.out).2 CR.out.2.2.2.1, fun x y h1 h2 h3 h4 => by rw [hI1.out, hI1.out]; exact CR.out.2.2.2.2 x y h1 h2 h3 h4⟩)
                clear hI1 CR
                have hl := IH.out a i mid d1 w1 (by omega) (by omega) (by omega) (by omega) (by omega) hw1.out C1.out.1 C1.out.2.1
                rw [hs] at hl
                clear hw1
                go_wp2_with fail
                refine hl.mono ?_
                rintro ev w2 ⟨rfl, d2, hz2, hpl, hsl2, hwl⟩
                have hp2' : Hid (PermIn a mid d1 d2) := hpl
                have hs2' : Hid (SortedIn (ltOf cf) a mid d2) := hsl2
                have hw2 : Aside (SW enc w0 blk off d2 w2) := hwl
                clear hpl hsl2 hwl hl
                have C2 : Hid (SortedIn (ltOf cf) mid e d2 ∧ SortedIn (ltOf cf) e b d2) := (show Hid _ from ⟨C1.out.2.2.1.congr (fun i h1 h2 => hp2'.out.2.1 i (Or.inr h1)), C1.out.2.2.2.1.congr (fun i h1 h2 => hp2'.out.2.1 i (Or.inr (by omega)))⟩)
                have hl3 := IH.out mid e b d2 w2 (by omega) (by omega) (by omega) (by omega) (by omega) hw2.out C2.out.1 C2.out.2
                rw [hs] at hl3
                clear hw2
                go_wp2_with fail
                all_goals refine hl3.mono ?_
                all_goals rintro ev w3 ⟨rfl, d3, hz3, hpl3, hsl3, hwl3⟩
                all_goals go_wp2_with fail
                all_goals go_end0
                all_goals exact ⟨rfl, d3, by omega, permIn_trans _ _ _ _ _ hp1'.out (permIn_trans _ _ _ _ _ (permIn_mono _ _ _ _ _ _ (by omega) (by omega) (by omega) hp2'.out) (permIn_mono _ _ _ _ _ _ (by omega) (by omega) (by omega) hpl3)), Stb.fin (by omega) (by omega) (by omega) C1.out.2.2.2.2 hp2'.out hs2'.out hpl3 hsl3, hwl3⟩
            · have c3a : ¬ ((mid : Int) < (e : Int) ∧ (e : Int) < (b : Int)) := by omega
              rcases (show ¬ (i : Int) < (m : Int) ∨ ((i : Int) < (m : Int) ∧ ¬ (m : Int) < (e : Int)) by omega) with g1 | ⟨g1, g1'⟩
              · have C1 : Hid (SortedIn (ltOf cf) a i d1 ∧ SortedIn (ltOf cf) i mid d1 ∧ SortedIn (ltOf cf) mid e d1 ∧ SortedIn (ltOf cf) e b d1 ∧ ∀ x y, a ≤ x → x < mid → mid ≤ y → y < b → ltOf cf d1[y]! d1[x]! = false) :=
                  (show Hid _ from ⟨(Stb.sd_of hI1.out).2 CR.out.1, (Stb.sd_of hI1.out).2 CR.out.2.1, (Stb.sd_of hI1.out).2 CR.out.2.2.1, (Stb.sd_of hI1.out).2 CR.out.2.2.2.1, fun x y h1 h2 h3 h4 => by rw [hI1.out, hI1.out]; exact CR.out.2.2.2.2 x y h1 h2 h3 h4⟩)
                clear hI1 CR
                have hl := IH.out a i mid d1 w1 (by omega) (by omega) (by omega) (by omega) (by omega) hw1.out C1.out.1 C1.out.2.1
                rw [hs] at hl
                clear hw1
                go_wp2_with fail
                refine hl.mono ?_
                rintro ev w2 ⟨rfl, d2, hz2, hpl, hsl2, hwl⟩
                have hp2' : Hid (PermIn a mid d1 d2) := hpl
                have hs2' : Hid (SortedIn (ltOf cf) a mid d2) := hsl2
                have hw2 : Aside (SW enc w0 blk off d2 w2) := hwl
                clear hpl hsl2 hwl hl
                have C2 : Hid (SortedIn (ltOf cf) mid e d2 ∧ SortedIn (ltOf cf) e b d2) := (show Hid _ from ⟨C1.out.2.2.1.congr (fun i h1 h2 => hp2'.out.2.1 i (Or.inr h1)), C1.out.2.2.2.1.congr (fun i h1 h2 => hp2'.out.2.1 i (Or.inr (by omega)))⟩)
                have hs3' : Hid (SortedIn (ltOf cf) mid b d2) := (show Hid _ from by
                  by_cases hq : mid < e
                  · have : e = b := by omega
                    have h3 := C2.out.1; rw [this] at h3; exact h3
                  · have : e = mid := by omega
                    have h3 := C2.out.2; rw [this] at h3; exact h3)
                go_wp2_with fail
                all_goals go_end0
                all_goals exact ⟨rfl, d2, by omega, permIn_trans _ _ _ _ _ hp1'.out (permIn_mono _ _ _ _ _ _ (by omega) (by omega) (by omega) hp2'.out), Stb.fin (by omega) (by omega) (by omega) C1.out.2.2.2.2 hp2'.out hs2'.out (permIn_refl _ _ _) hs3'.out, hw2.out⟩
              · have C1 : Hid (SortedIn (ltOf cf) a i d1 ∧ SortedIn (ltOf cf) i mid d1 ∧ SortedIn (ltOf cf) mid e d1 ∧ SortedIn (ltOf cf) e b d1 ∧ ∀ x y, a ≤ x → x < mid → mid ≤ y → y < b → ltOf cf d1[y]! d1[x]! = false) :=
                  (show Hid _ from ⟨(Stb.sd_of hI1.out).2 CR.out.1, (Stb.sd_of hI1.out).2 CR.out.2.1, (Stb.sd_of hI1.out).2 CR.out.2.2.1, (Stb.sd_of hI1.out).2 CR.out.2.2.2.1, fun x y h1 h2 h3 h4 => by rw [hI1.out, hI1.out]; exact CR.out.2.2.2.2 x y h1 h2 h3 h4⟩)
                clear hI1 CR
                have hl := IH.out a i mid d1 w1 (by omega) (by omega) (by omega) (by omega) (by omega) hw1.out C1.out.1 C1.out.2.1
                rw [hs] at hl
                clear hw1
                go_wp2_with fail
                refine hl.mono ?_
                rintro ev w2 ⟨rfl, d2, hz2, hpl, hsl2, hwl⟩
                have hp2' : Hid (PermIn a mid d1 d2) := hpl
                have hs2' : Hid (SortedIn (ltOf cf) a mid d2) := hsl2
                have hw2 : Aside (SW enc w0 blk off d2 w2) := hwl
                clear hpl hsl2 hwl hl
                have C2 : Hid (SortedIn (ltOf cf) mid e d2 ∧ SortedIn (ltOf cf) e b d2) := (show Hid _ from ⟨C1.out.2.2.1.congr (fun i h1 h2 => hp2'.out.2.1 i (Or.inr h1)), C1.out.2.2.2.1.congr (fun i h1 h2 => hp2'.out.2.1 i (Or.inr (by omega)))⟩)
                have hs3' : Hid (SortedIn (ltOf cf) mid b d2) := (show Hid _ from by
                  by_cases hq : mid < e
                  · have : e = b := by omega
                    have h3 := C2.out.1; rw [this] at h3; exact h3
                  · have : e = mid := by omega
                    have h3 := C2.out.2; rw [this] at h3; exact h3)
                go_wp2_with fail
                all_goals go_end0
                all_goals exact ⟨rfl, d2, by omega, permIn_trans _ _ _ _ _ hp1'.out (permIn_mono _ _ _ _ _ _ (by omega) (by omega) (by omega) hp2'.out), Stb.fin (by omega) (by omega) (by omega) C1.out.2.2.2.2 hp2'.out hs2'.out (permIn_refl _ _ _) hs3'.out, hw2.out⟩
          · have c2a : ¬ ((a : Int) < (i : Int) ∧ (i : Int) < (mid : Int)) := by omega
            by_cases c3 : mid < e ∧ e < b
            · have c3a : (mid : Int) < (e : Int) := by omega
              have c3b : (e : Int) < (b : Int) := by omega
              clear c3
              rcases (show ¬ (i : Int) < (m : Int) ∨ ((i : Int) < (m : Int) ∧ ¬ (m : Int) < (e : Int)) by omega) with g1 | ⟨g1, g1'⟩
              · have C1 : Hid (SortedIn (ltOf cf) a i d1 ∧ SortedIn (ltOf cf) i mid d1 ∧ SortedIn (ltOf cf) mid e d1 ∧ SortedIn (ltOf cf) e b d1 ∧ ∀ x y, a ≤ x → x < mid → mid ≤ y → y < b → ltOf cf d1[y]! d1[x]! = false) :=
                  (show Hid _ from ⟨(Stb.sd_of hI1.out).2 CR.out.1, (Stb.sd_of hI1.out).2 CR.out.2.1, (Stb.sd_of hI1.out).2 CR.out.2.2.1, (Stb.sd_of hI1.out).2 CR.out.2.2.2.1, fun x y h1 h2 h3 h4 => by rw [hI1.out, hI1.out]; exact CR.out.2.2.2.2 x y h1 h2 h3 h4⟩)
                clear hI1 CR
                obtain ⟨d2, hd2⟩ : ∃ d2, d2 = d1 := ⟨_, rfl⟩
                obtain ⟨w2, hw2e⟩ : ∃ w2, w2 = w1 := ⟨_, rfl⟩
                have hz2 : d2.size = d1.size := by rw [hd2]
                have hp2' : Hid (PermIn a mid d1 d2) := (show Hid _ from by rw [hd2]; exact permIn_refl _ _ _)
                have hs2' : Hid (SortedIn (ltOf cf) a mid d2) := (show Hid _ from by
                  rw [hd2]
                  by_cases hq : a < i
                  · have : i = mid := by omega
                    have h3 := C1.out.1; rw [this] at h3; exact h3
                  · have : i = a := by omega
                    have h3 := C1.out.2.1; rw [this] at h3; exact h3)
                have hw2 : Aside (SW enc w0 blk off d2 w2) := (show Aside _ from by rw [hd2, hw2e]; exact hw1.out)
                rw [← hw2e]
                clear hd2 hw2e hw1
                have C2 : Hid (SortedIn (ltOf cf) mid e d2 ∧ SortedIn (ltOf cf) e b d2) := (show Hid _ from ⟨C1.out.2.2.1.congr (fun i h1 h2 => hp2'.out.2.1 i (Or.inr h1)), C1.out.2.2.2.1.congr (fun i h1 h2 => hp2'.out.2.1 i (Or.inr (by omega)))⟩)
                have hl3 := IH.out mid e b d2 w2 (by omega) (by omega) (by omega) (by omega) (by omega) hw2.out C2.out.1 C2.out.2
                rw [hs] at hl3
                clear hw2
                go_wp2_with fail
                all_goals refine hl3.mono ?_
                all_goals rintro ev w3 ⟨rfl, d3, hz3, hpl3, hsl3, hwl3⟩
                all_goals go_wp2_with fail
                all_goals go_end0
                all_goals exact ⟨rfl, d3, by omega, permIn_trans _ _ _ _ _ hp1'.out (permIn_trans _ _ _ _ _ (permIn_mono _ _ _ _ _ _ (by omega) (by omega) (by omega) hp2'.out) (permIn_mono _ _ _ _ _ _ (by omega) (by omega) (by omega) hpl3)), Stb.fin (by omega) (by omega) (by omega) C1.out.2.2.2.2 hp2'.out hs2'.out hpl3 hsl3, hwl3⟩
              · have C1 : Hid (SortedIn (ltOf cf) a i d1 ∧ SortedIn (ltOf cf) i mid d1 ∧ SortedIn (ltOf cf) mid e d1 ∧ SortedIn (ltOf cf) e b d1 ∧ ∀ x y, a ≤ x → x < mid → mid ≤ y → y < b → ltOf cf d1[y]! d1[x]! = false) :=
                  (show Hid _ from ⟨(Stb.sd_of hI1.out).2 CR.out.1, (Stb.sd_of hI1.out).2 CR.out.2.1, (Stb.sd_of hI1.out).2 CR.out.2.2.1, (Stb.sd_of hI1.out).2 CR.out.2.2.2.1, fun x y h1 h2 h3 h4 => by rw [hI1.out, hI1.out]; exact CR.out.2.2.2.2 x y h1 h2 h3 h4⟩)
                clear hI1 CR
                obtain ⟨d2, hd2⟩ : ∃ d2, d2 = d1 := ⟨_, rfl⟩
                obtain ⟨w2, hw2e⟩ : ∃ w2, w2 = w1 := ⟨_, rfl⟩
                have hz2 : d2.size = d1.size := by rw [hd2]
                have hp2' : Hid (PermIn a mid d1 d2) := (show Hid _ from by rw [hd2]; exact permIn_refl _ _ _)
                have hs2' : Hid (SortedIn (ltOf cf) a mid d2) := (show Hid _ from by
                  rw [hd2]
                  by_cases hq : a < i
                  · have : i = mid := by omega
                    have h3 := C1.out.1; rw [this] at h3; exact h3
                  · have : i = a := by omega
                    have h3 := C1.out.2.1; rw [this] at h3; exact h3)
                have hw2 : Aside (SW enc w0 blk off d2 w2) := (show Aside _ from by rw [hd2, hw2e]; exact hw1.out)
                rw [← hw2e]
                clear hd2 hw2e hw1
                have C2 : Hid (SortedIn (ltOf cf) mid e d2 ∧ SortedIn (ltOf cf) e b d2) := (show Hid _ from ⟨C1.out.2.2.1.congr (fun i h1 h2 => hp2'.out.2.1 i (Or.inr h1)), C1.out.2.2.2.1.congr (fun i h1 h2 => hp2'.out.2.1 i (Or.inr (by omega)))⟩)
                have hl3 := IH.out mid e b d2 w2 (by omega) (by omega) (by omega) (by omega) (by omega) hw2.out C2.out.1 C2.out.2
                rw [hs] at hl3
                clear hw2
                go_wp2_with fail
                all_goals refine hl3.mono ?_
                all_goals rintro ev w3 ⟨rfl, d3, hz3, hpl3, hsl3, hwl3⟩
                all_goals go_wp2_with fail
                all_goals go_end0
                all_goals exact ⟨rfl, d3, by omega, permIn_trans _ _ _ _ _ hp1'.out (permIn_trans _ _ _ _ _ (permIn_mono _ _ _ _ _ _ (by omega) (by omega) (by omega) hp2'.out) (permIn_mono _ _ _ _ _ _ (by omega) (by omega) (by omega) hpl3)), Stb.fin (by omega) (by omega) (by omega) C1.out.2.2.2.2 hp2'.out hs2'.out hpl3 hsl3, hwl3⟩
            · have c3a : ¬ ((mid : Int) < (e : Int) ∧ (e : Int) < (b : Int)) := by omega
              rcases (show ¬ (i : Int) < (m : Int) ∨ ((i : Int) < (m : Int) ∧ ¬ (m : Int) < (e : Int)) by omega) with g1 | ⟨g1, g1'⟩
              · have C1 : Hid (SortedIn (ltOf cf) a i d1 ∧ SortedIn (ltOf cf) i mid d1 ∧ SortedIn (ltOf cf) mid e d1 ∧ SortedIn (ltOf cf) e b d1 ∧ ∀ x y, a ≤ x → x < mid → mid ≤ y → y < b → ltOf cf d1[y]! d1[x]! = false) :=
                  (show Hid _ from ⟨(Stb.sd_of hI1.out).2 CR.out.1, (Stb.sd_of hI1.out).2 CR.out.2.1, (Stb.sd_of hI1.out).2 CR.out.2.2.1, (Stb.sd_of hI1.out).2 CR.out.2.2.2.1, fun x y h1 h2 h3 h4 => by rw [hI1.out, hI1.out]; exact CR.out.2.2.2.2 x y h1 h2 h3 h4⟩)
                clear hI1 CR
                obtain ⟨d2, hd2⟩ : ∃ d2, d2 = d1 := ⟨_, rfl⟩
                obtain ⟨w2, hw2e⟩ : ∃ w2, w2 = w1 := ⟨_, rfl⟩
                have hz2 : d2.size = d1.size := by rw [hd2]
                have hp2' : Hid (PermIn a mid d1 d2) := (show Hid _ from by rw [hd2]; exact permIn_refl _ _ _)
                have hs2' : Hid (SortedIn (ltOf cf) a mid d2) := (show Hid _ from by
                  rw [hd2]
                  by_cases hq : a < i
                  · have : i = mid := by omega
                    have h3 := C1.out.1; rw [this] at h3; exact h3
                  · have : i = a := by omega
                    have h3 := C1.out.2.1; rw [this] at h3; exact h3)
                have hw2 : Aside (SW enc w0 blk off d2 w2) := (show Aside _ from by rw [hd2, hw2e]; exact hw1.out)
                rw [← hw2e]
                clear hd2 hw2e hw1
                have C2 : Hid (SortedIn (ltOf cf) mid e d2 ∧ SortedIn (ltOf cf) e b d2) := (show Hid _ from ⟨C1.out.2.2.1.congr (fun i h1 h2 => hp2'.out.2.1 i (Or.inr h1)), C1.out.2.2.2.1.congr (fun i h1 h2 => hp2'.out.2.1 i (Or.inr (by omega)))⟩)
                have hs3' : Hid (SortedIn (ltOf cf) mid b d2) := (show Hid _ from by
                  by_cases hq : mid < e
                  · have : e = b := by omega
                    have h3 := C2.out.1; rw [this] at h3; exact h3
                  · have : e = mid := by omega
                    have h3 := C2.out.2; rw [this] at h3; exact h3)
                go_wp2_with fail
                all_goals go_end0
                all_goals exact ⟨rfl, d2, by omega, permIn_trans _ _ _ _ _ hp1'.out (permIn_mono _ _ _ _ _ _ (by omega) (by omega) (by omega) hp2'.out), Stb.fin (by omega) (by omega) (by omega) C1.out.2.2.2.2 hp2'.out hs2'.out (permIn_refl _ _ _) hs3'.out, hw2.out⟩
              · have C1 : Hid (SortedIn (ltOf cf) a i d1 ∧ SortedIn (ltOf cf) i mid d1 ∧ SortedIn (ltOf cf) mid e d1 ∧ SortedIn (ltOf cf) e b d1 ∧ ∀ x y, a ≤ x → x < mid → mid ≤ y → y < b → ltOf cf d1[y]! d1[x]! = false) :=
                  (show Hid _ from ⟨(Stb.sd_of hI1.out).2 CR.out.1, (Stb.sd_of hI1.out).2 CR.out.2.1, (Stb.sd_of hI1.out).2 CR.out.2.2.1, (Stb.sd_of hI1.out).2 CR.out.2.2.2.1, fun x y h1 h2 h3 h4 => by rw [hI1.out, hI1.out]; exact CR.out.2.2.2.2 x y h1 h2 h3 h4⟩)
                clear hI1 CR
                obtain ⟨d2, hd2⟩ : ∃ d2, d2 = d1 := ⟨_, rfl⟩
                obtain ⟨w2, hw2e⟩ : ∃ w2, w2 = w1 := ⟨_, rfl⟩
                have hz2 : d2.size = d1.size := by rw [hd2]
                have hp2' : Hid (PermIn a mid d1 d2) := (show Hid _ from by rw [hd2]; exact permIn_refl _ _ _)
                have hs2' : Hid (SortedIn (ltOf cf) a mid d2) := (show Hid _ from by
                  rw [hd2]
                  by_cases hq : a < i
                  · have : i = mid := by omega
                    have h3 := C1.out.1; rw [this] at h3; exact h3
                  · have : i = a := by omega
                    have h3 := C1.out.2.1; rw [this] at h3; exact h3)
                have hw2 : Aside (SW enc w0 blk off d2 w2) := (show Aside _ from by rw [hd2, hw2e]; exact hw1.out)
                rw [← hw2e]
                clear hd2 hw2e hw1
                have C2 : Hid (SortedIn (ltOf cf) mid e d2 ∧ SortedIn (ltOf cf) e b d2) := (show Hid _ from ⟨C1.out.2.2.1.congr (fun i h1 h2 => hp2'.out.2.1 i (Or.inr h1)), C1.out.2.2.2.1.congr (fun i h1 h2 => hp2'.out.2.1 i (Or.inr (by omega)))⟩)
                have hs3' : Hid (SortedIn (ltOf cf) mid b d2) := (show Hid _ from by
                  by_cases hq : mid < e
                  · have : e = b := by omega
                    have h3 := C2.out.1; rw [this] at h3; exact h3
                  · have : e = mid := by omega
                    have h3 := C2.out.2; rw [this] at h3; exact h3)
                go_wp2_with fail
                all_goals go_end0
                all_goals exact ⟨rfl, d2, by omega, permIn_trans _ _ _ _ _ hp1'.out (permIn_mono _ _ _ _ _ _ (by omega) (by omega) (by omega) hp2'.out), Stb.fin (by omega) (by omega) (by omega) C1.out.2.2.2.2 hp2'.out hs2'.out (permIn_refl _ _ _) hs3'.out, hw2.out⟩
end Go.Proofs.Ythlfdhooiekgjaa
/-
  The stable sort of the library: whole. No condition.
-/
set_option linter.unusedSimpArgs false
set_option linter.unusedVariables false
namespace Go.Proofs.Ythlfdhooiekgjaa
open Go Go.RowKit Go.Lib Go.Sort Go.Shelf
variable {α : Type} [Inhabited α]

theorem symMerge_s (enc : α → Value) (cf : α → α → Int) (hO : SWO (ltOf cf)) (g : Nat) (cb : Array Value) (blk off cap : Nat) (d0 : Array α) (w0 : World)
    (eg : ∀ args w, (callFunc g args).run Try.prog w = .ok (.enter g args) w) (hcmp : CmpLays1 Try.prog g cb enc cf blk off d0.size w0) (R : Row1 enc w0 blk off d0) (hsz : d0.size < 4611686018427387904) :
    ∀ (N a m b : Nat) (d : Array α) (w : World), b - a ≤ N → a < m → m < b → b ≤ d.size → d0.size = d.size → SW enc w0 blk off d w → SortedIn (ltOf cf) a m d → SortedIn (ltOf cf) m b d → MergeOk enc cf g cb blk off cap d0 w0 a m b d w
  | 0, a, m, b, d, w, hN, ham, hmb, hb, hs, S, h1, h2 => by omega
  | N + 1, a, m, b, d, w, hN, ham, hmb, hb, hs, S, h1, h2 => by
    by_cases c1 : m = a + 1
    · subst c1
      unfold MergeOk
      rw [hs]
      exact symMerge_l enc cf hO g cb blk off cap a b d0 d w0 w eg hcmp R hs S hmb hb (by omega) h2
    · by_cases c2 : b = m + 1
      · subst c2
        unfold MergeOk
        rw [hs]
        exact symMerge_r enc cf hO g cb blk off cap a m d0 d w0 w eg hcmp R hs S (by omega) hb (by omega) h1
      · exact symMerge_i enc cf hO g cb blk off cap a m b d0 d w0 w eg hcmp R hs S (by omega) (by omega) hb (by omega) h1 h2
          (fun a' m' b' d' w' q1 q2 q3 q4 q5 q6 q7 q8 => symMerge_s enc cf hO g cb blk off cap d0 w0 eg hcmp R hsz N a' m' b' d' w' (by omega) q2 q3 q4 q5 q6 q7 q8)

/-- Blocks of k in order, up to c. -/
def Bks (lt : α → α → Bool) (k c : Nat) (d : Array α) : Prop := ∀ t, SortedIn lt (t * k) (min (t * k + k) c) d
theorem sorted_none (lt : α → α → Bool) {a b : Nat} (d : Array α) (h : b ≤ a) : SortedIn lt a b d := fun i j h1 h2 h3 => by omega
theorem bks_step {lt : α → α → Bool} {k T : Nat} {d d' : Array α} (h : Bks lt k (T * k) d) (hp : PermIn (T * k) (T * k + k) d d') (hs : SortedIn lt (T * k) (T * k + k) d') : Bks lt k ((T + 1) * k) d' := by
  intro t
  rw [Nat.succ_mul]
  by_cases h1 : t < T
  · have : t * k + k ≤ T * k := by rw [← Nat.succ_mul]; exact Nat.mul_le_mul_right _ h1
    have := h t
    rw [show min (t * k + k) (T * k) = t * k + k by omega] at this
    rw [show min (t * k + k) (T * k + k) = t * k + k by omega]
    exact this.congr fun i q1 q2 => hp.2.1 i (Or.inl (by omega))
  · by_cases h2 : t = T
    · subst h2; rw [Nat.min_self]; exact hs
    · have : (T + 1) * k ≤ t * k := Nat.mul_le_mul_right _ (by omega)
      rw [Nat.succ_mul] at this
      exact sorted_none lt _ (by omega)
theorem bks_last {lt : α → α → Bool} {k T n : Nat} {d d' : Array α} (h : Bks lt k (T * k) d) (h1 : T * k ≤ n) (h2 : n < T * k + k) (hp : PermIn (T * k) n d d') (hs : SortedIn lt (T * k) n d') : Bks lt k n d' := by
  intro t
  by_cases h1 : t < T
  · have : t * k + k ≤ T * k := by rw [← Nat.succ_mul]; exact Nat.mul_le_mul_right _ h1
    have := h t
    rw [show min (t * k + k) (T * k) = t * k + k by omega] at this
    rw [show min (t * k + k) n = t * k + k by omega]
    exact this.congr fun i q1 q2 => hp.2.1 i (Or.inl (by omega))
  · by_cases h2 : t = T
    · subst h2; rw [show min (t * k + k) n = n by omega]; exact hs
    · have : (T + 1) * k ≤ t * k := Nat.mul_le_mul_right _ (by omega)
      rw [Nat.succ_mul] at this
      exact sorted_none lt _ (by omega)
/-- What is left in blocks of k, from a on. -/
def Rest (lt : α → α → Bool) (k a n : Nat) (d : Array α) : Prop := ∀ t, a ≤ t * k → SortedIn lt (t * k) (min (t * k + k) n) d
theorem rest_of {lt : α → α → Bool} {k n : Nat} {d : Array α} (h : Bks lt k n d) : Rest lt k 0 n d := fun t _ => h t
theorem rest_two {lt : α → α → Bool} {k n T : Nat} {d : Array α} (h : Rest lt k (T * (2 * k)) n d) (hn : T * (2 * k) + k ≤ n) : SortedIn lt (T * (2 * k)) (T * (2 * k) + k) d ∧ SortedIn lt (T * (2 * k) + k) (min (T * (2 * k) + 2 * k) n) d := by
  have e : 2 * T * k = T * (2 * k) := by rw [Nat.mul_comm 2 T, Nat.mul_assoc]
  have a1 := h (2 * T) (by omega)
  have e2 : (2 * T + 1) * k = T * (2 * k) + k := by rw [Nat.add_mul, e, Nat.one_mul]
  have a2 := h (2 * T + 1) (by omega)
  rw [e, show min (T * (2 * k) + k) n = T * (2 * k) + k by omega] at a1
  rw [e2, show T * (2 * k) + k + k = T * (2 * k) + 2 * k by omega] at a2
  exact ⟨a1, a2⟩
theorem rest_step {lt : α → α → Bool} {k n T : Nat} {d d' : Array α} (h : Rest lt k (T * (2 * k)) n d) (hp : PermIn (T * (2 * k)) (T * (2 * k) + 2 * k) d d') : Rest lt k ((T + 1) * (2 * k)) n d' := fun t ht => by
  have e2 : (T + 1) * (2 * k) = T * (2 * k) + 2 * k := by rw [Nat.add_mul, Nat.one_mul]
  exact (h t (by omega)).congr fun i q1 q2 => hp.2.1 i (Or.inr (by omega))
theorem rest_one {lt : α → α → Bool} {k n T : Nat} {d : Array α} (h : Rest lt k (T * (2 * k)) n d) (hn : n ≤ T * (2 * k) + k) : SortedIn lt (T * (2 * k)) n d := by
  have e : 2 * T * k = T * (2 * k) := by rw [Nat.mul_comm 2 T, Nat.mul_assoc]
  have a1 := h (2 * T) (by omega)
  rw [e, show min (T * (2 * k) + k) n = n by omega] at a1
  exact a1
theorem bks_all {lt : α → α → Bool} {k n : Nat} {d : Array α} (h : Bks lt k n d) (hn : n ≤ k) : SortedIn lt 0 n d := by
  have := h 0
  rwa [Nat.zero_mul, Nat.zero_add, show min k n = n by omega] at this
end Go.Proofs.Ythlfdhooiekgjaa
/-
  The stable sort of the library, walked whole. No condition but a bound on the size.
-/
set_option linter.unusedSimpArgs false
set_option linter.unusedVariables false
namespace Go.Proofs.Ythlfdhooiekgjaa
open Go Go.RowKit Go.Lib Go.Sort Go.Shelf
variable {α : Type} [Inhabited α]

set_option maxHeartbeats 64000000 in
set_option maxRecDepth 1000000 in
theorem stable_s (enc : α → Value) (cf : α → α → Int) (hO : SWO (ltOf cf)) (g : Nat) (cb : Array Value) (blk off cap : Nat) (d0 : Array α) (w0 : World)
    (eg : ∀ args w, (callFunc g args).run Try.prog w = .ok (.enter g args) w) (hcmp : CmpLays1 Try.prog g cb enc cf blk off d0.size w0) (R : Row1 enc w0 blk off d0) (hsz : d0.size < 1073741824) :
    Calls Try.prog 81 #[.slice (some ⟨blk, off, none⟩) d0.size cap, .int .i64 d0.size, .func (.func g) #[] cb] w0 fun e w' => e = .returned (.tuple #[]) ∧ ∃ d', d'.size = d0.size ∧ PermIn 0 d0.size d0 d' ∧ SortedIn (ltOf cf) 0 d0.size d' ∧ SW enc w0 blk off d' w' := by
  have mixed : Try.prog.follows Departure.mixedOrders = true := by kernel_rfl
  have INS : Hid (∀ (a b : Nat) (d : Array α) (w : World), d0.size = d.size → SW enc w0 blk off d w → a ≤ b → b ≤ d.size → Calls Try.prog 82 #[.slice (some ⟨blk, off, none⟩) d0.size cap, .int .i64 a, .int .i64 b, .func (.func g) #[] cb] w fun e w' => e = .returned (.tuple #[]) ∧ ∃ d', d'.size = d.size ∧ PermIn a b d d' ∧ SortedIn (ltOf cf) a b d' ∧ SW enc w0 blk off d' w') :=
    (show Hid _ from fun a b d w h1 h2 h3 h4 => by
      have hc := Any.insertionSortCmpFunc_s (P := Try.prog) (ρ := laysSort_ren) { laysSort with } enc cf g cb blk off cap a b d0 d w0 w eg hcmp R h1 h2 h3 h4 (by omega)
      rw [← h1] at hc
      obtain ⟨q1, q2⟩ := insertionSort_holds hO d a b h3 h4
      exact hc.mono fun e w' ⟨he, hw⟩ => ⟨he, _, q1.1, q1, q2, hw⟩)
  have MRG : Hid (∀ (a m b : Nat) (d : Array α) (w : World), a < m → m < b → b ≤ d.size → d0.size = d.size → SW enc w0 blk off d w → SortedIn (ltOf cf) a m d → SortedIn (ltOf cf) m b d → MergeOk enc cf g cb blk off cap d0 w0 a m b d w) :=
    (show Hid _ from fun a m b d w h1 h2 h3 h4 h5 h6 h7 => symMerge_s enc cf hO g cb blk off cap d0 w0 eg hcmp R (by omega) (b - a) a m b d w (Nat.le_refl _) h1 h2 h3 h4 h5 h6 h7)
  have S0 : Aside (SW enc w0 blk off d0 w0) := SW.start R.hH
  clear hcmp eg
  go_enter Try.func81, Try.ntmps81
  go_wp2
  go_loopg [7, 8] d0.size (fun g1 va vb wr => ∃ (a b : Nat) (d : Array α), va = .int .i64 a ∧ vb = .int .i64 b ∧ a + 20 ≤ b ∧ b ≤ a + 20 ∧ a ≤ d0.size ∧ d0.size - a ≤ g1 ∧ d.size = d0.size ∧ Aside (SW enc w0 blk off d wr) ∧ Hid (∃ T, a = T * 20 ∧ PermIn 0 d0.size d0 d ∧ Bks (ltOf cf) 20 (T * 20) d))
  case atStart => exact ⟨0, 20, d0, by go_num, by go_num, by omega, by omega, by omega, by omega, rfl, S0, (show Hid _ from ⟨0, by omega, permIn_refl _ _ _, fun t => sorted_none _ _ (by omega)⟩)⟩
  case round =>
    clear S0
    obtain ⟨a, b, d, rfl, rfl, hb1, hb2, ha, hg1, hsd, S1, HO⟩ := hrel
    by_cases hbn : b ≤ d0.size
    · have hbz : (b : Int) ≤ (d0.size : Int) := by omega
      have hc := INS.out a b d wr hsd.symm S1.out (by omega) (by omega)
      clear S1
      go_wp2_with fail
      refine hc.mono ?_
      rintro ev w1 ⟨rfl, d1, hz1, hp1, hs1, hw1⟩
      have S2 : Aside (SW enc w0 blk off d1 w1) := hw1
      have HO2 : Hid (∃ T, b = T * 20 ∧ PermIn 0 d0.size d0 d1 ∧ Bks (ltOf cf) 20 (T * 20) d1) := (show Hid _ from by
        obtain ⟨T, e, q1, q2⟩ := HO.out
        subst e
        have eb : b = T * 20 + 20 := by omega
        subst eb
        refine ⟨T + 1, by omega, permIn_trans _ _ _ _ _ q1 (permIn_mono _ _ _ _ _ _ (by omega) (by omega) (by omega) hp1), bks_step q2 hp1 hs1⟩)
      clear hw1 hp1 hs1 hc HO
      go_wp2
      go_roundg (d0.size - b)
      case measure => omega
      case rel => exact ⟨b, b + 20, d1, by go_num, by go_num, by omega, by omega, by omega, by omega, by omega, S2, HO2⟩
    · have hbz : ¬ (b : Int) ≤ (d0.size : Int) := by omega
      have hc := INS.out a d0.size d wr hsd.symm S1.out (by omega) (by omega)
      clear S1
      go_wp2_with fail
      refine hc.mono ?_
      rintro ev w1 ⟨rfl, d1, hz1, hp1, hs1, hw1⟩
      have S2 : Aside (SW enc w0 blk off d1 w1) := hw1
      have HO2 : Hid (PermIn 0 d0.size d0 d1 ∧ Bks (ltOf cf) 20 d0.size d1) := (show Hid _ from by
        obtain ⟨T, e, q1, q2⟩ := HO.out
        subst e
        exact ⟨permIn_trans _ _ _ _ _ q1 (permIn_mono _ _ _ _ _ _ (by omega) (by omega) (by omega) hp1), bks_last q2 ha (by omega) hp1 hs1⟩)
      clear hw1 hp1 hs1 hc HO
      go_wp2
      go_loopg [6] d0.size (fun g1 vk wr => ∃ (k : Nat) (d : Array α), vk = .int .i64 k ∧ 20 ≤ k ∧ k < 2147483648 ∧ d0.size - k ≤ g1 ∧ d.size = d0.size ∧ Aside (SW enc w0 blk off d wr) ∧ Hid (PermIn 0 d0.size d0 d ∧ Bks (ltOf cf) k d0.size d))
      case atStart => exact ⟨20, d1, by go_num, by omega, by omega, by omega, by omega, S2, HO2⟩
      case round =>
        clear S2 HO2
        obtain ⟨k, d2, rfl, hk1, hk2, hg2, hsd2, S3, H3⟩ := hrel
        by_cases hkn : k < d0.size
        · have hkz : (k : Int) < (d0.size : Int) := by omega
          go_wp2
          go_loopg [7, 8] d0.size (fun g1 va vb wr => ∃ (a b : Nat) (d : Array α), va = .int .i64 a ∧ vb = .int .i64 b ∧ a + 2 * k ≤ b ∧ b ≤ a + 2 * k ∧ a ≤ d0.size ∧ d0.size - a ≤ g1 ∧ d.size = d0.size ∧ Aside (SW enc w0 blk off d wr) ∧ Hid (∃ T, a = T * (2 * k) ∧ PermIn 0 d0.size d0 d ∧ Bks (ltOf cf) (2 * k) (T * (2 * k)) d ∧ Rest (ltOf cf) k (T * (2 * k)) d0.size d))
          case atStart => exact ⟨0, 2 * k, d2, by go_num, by go_num, by omega, by omega, by omega, by omega, hsd2, S3, (show Hid _ from ⟨0, by omega, H3.out.1, fun t => sorted_none _ _ (by omega), by rw [Nat.zero_mul]; exact rest_of H3.out.2⟩)⟩
          case round =>
            clear S3 H3
            obtain ⟨a, b, d3, rfl, rfl, hb1, hb2, ha, hg3, hsd3, S4, H4⟩ := hrel
            by_cases hbn : b ≤ d0.size
            · have hbz : (b : Int) ≤ (d0.size : Int) := by omega
              have hc : MergeOk enc cf g cb blk off cap d0 w0 a (a + k) b d3 wr := by
                obtain ⟨T, e, q1, q2, q3⟩ := H4.out
                subst e
                obtain ⟨r1, r2⟩ := rest_two q3 (by omega)
                rw [show min (T * (2 * k) + 2 * k) d0.size = b by omega] at r2
                exact MRG.out _ _ _ d3 wr (by omega) (by omega) (by omega) hsd3.symm S4.out r1 r2
              unfold MergeOk at hc
              rw [Int.natCast_add] at hc
              clear S4
              go_wp2_with fail
              refine hc.mono ?_
              rintro ev w4 ⟨rfl, d4, hz4, hp4, hs4, hw4⟩
              have S5 : Aside (SW enc w0 blk off d4 w4) := hw4
              have H5 : Hid (∃ T, b = T * (2 * k) ∧ PermIn 0 d0.size d0 d4 ∧ Bks (ltOf cf) (2 * k) (T * (2 * k)) d4 ∧ Rest (ltOf cf) k (T * (2 * k)) d0.size d4) := (show Hid _ from by
                obtain ⟨T, e, q1, q2, q3⟩ := H4.out
                subst e
                have eb : b = T * (2 * k) + 2 * k := by omega
                subst eb
                refine ⟨T + 1, by rw [Nat.add_mul, Nat.one_mul], permIn_trans _ _ _ _ _ q1 (permIn_mono _ _ _ _ _ _ (by omega) (by omega) (by omega) hp4), bks_step q2 hp4 hs4, rest_step q3 hp4⟩)
              clear hw4 hp4 hs4 hc H4
              go_wp2
              go_roundg (d0.size - b)
              case measure => omega
              case rel => exact ⟨b, b + 2 * k, d4, by go_num, by go_num, by omega, by omega, by omega, by omega, by omega, S5, H5⟩
            · have hbz : ¬ (b : Int) ≤ (d0.size : Int) := by omega
              by_cases hlast : a + k < d0.size
              · have hlz : (a : Int) + (k : Int) < (d0.size : Int) := by omega
                have hc : MergeOk enc cf g cb blk off cap d0 w0 a (a + k) d0.size d3 wr := by
                  obtain ⟨T, e, q1, q2, q3⟩ := H4.out
                  subst e
                  obtain ⟨r1, r2⟩ := rest_two q3 (by omega)
                  rw [show min (T * (2 * k) + 2 * k) d0.size = d0.size by omega] at r2
                  exact MRG.out _ _ _ d3 wr (by omega) (by omega) (by omega) hsd3.symm S4.out r1 r2
                unfold MergeOk at hc
                rw [Int.natCast_add] at hc
                clear S4
                go_wp2_with fail
                refine hc.mono ?_
                rintro ev w4 ⟨rfl, d4, hz4, hp4, hs4, hw4⟩
                have S5 : Aside (SW enc w0 blk off d4 w4) := hw4
                have H5 : Hid (PermIn 0 d0.size d0 d4 ∧ Bks (ltOf cf) (k * 2) d0.size d4) := (show Hid _ from by
                  obtain ⟨T, e, q1, q2, q3⟩ := H4.out
                  subst e
                  rw [Nat.mul_comm k 2]
                  exact ⟨permIn_trans _ _ _ _ _ q1 (permIn_mono _ _ _ _ _ _ (by omega) (by omega) (by omega) hp4), bks_last q2 ha (by omega) hp4 hs4⟩)
                clear hw4 hp4 hs4 hc H4
                go_wp2
                go_roundg (d0.size - k * 2)
                case measure => omega
                case rel => exact ⟨k * 2, d4, by go_num, by omega, by omega, by omega, by omega, S5, H5⟩
              · have hlz : ¬ (a : Int) + (k : Int) < (d0.size : Int) := by omega
                have H5 : Hid (PermIn 0 d0.size d0 d3 ∧ Bks (ltOf cf) (k * 2) d0.size d3) := (show Hid _ from by
                  obtain ⟨T, e, q1, q2, q3⟩ := H4.out
                  subst e
                  rw [Nat.mul_comm k 2]
                  exact ⟨q1, bks_last q2 ha (by omega) (permIn_refl _ _ _) (rest_one q3 (by omega))⟩)
                clear H4
                go_wp2
                go_roundg (d0.size - k * 2)
                case measure => omega
                case rel => exact ⟨k * 2, d3, by go_num, by omega, by omega, by omega, by omega, S4, H5⟩
        · have hkz : ¬ (k : Int) < (d0.size : Int) := by omega
          go_wp2
          go_end0
          exact ⟨rfl, d2, hsd2, H3.out.1, bks_all H3.out.2 (by omega), S3.out⟩

theorem slices_SortStableFunc (enc : α → Value) (h1 : OneCell enc) (cf : α → α → Int) (hO : SWO (ltOf cf)) (g : Nat) (cb : Array Value) (blk off cap : Nat) (d : Array α) (w : World) (eg : ∀ args w, (callFunc g args).run Try.prog w = .ok (.enter g args) w) (hcmp : CmpLays1 Try.prog g cb enc cf blk off d.size w) (hH : Holds enc w blk off d) (hblk : blk < w.heap.size) (hsz : d.size < 1073741824) :
    Calls Try.prog 74 #[.slice (some ⟨blk, off, none⟩) d.size cap, .func (.func g) #[] cb] w fun e w' =>
      e = .returned (.tuple #[]) ∧ ∃ d' n os, PermIn 0 d.size d d' ∧ SortedIn (ltOf cf) 0 d.size d' ∧ w' = sortWorld enc w blk off n d' os := by
  have hc := stable_s enc cf hO g cb blk off cap d w eg hcmp ⟨h1, hH, hblk⟩ hsz
  go_enter Try.func74, Try.ntmps74
  go_wp2_with fail
  refine hc.mono ?_
  rintro ev w1 ⟨rfl, d1, hz1, hp1, hs1, n, os, hw1⟩
  have A : Hid (PermIn 0 d.size d d1 ∧ SortedIn (ltOf cf) 0 d.size d1 ∧ w1 = sortWorld enc w blk off n d1 os) := (show Hid _ from ⟨hp1, hs1, hw1⟩)
  clear hp1 hs1 hw1 hc
  go_wp2
  go_end0
  exact ⟨rfl, d1, n, os, A.out⟩
end Go.Proofs.Ythlfdhooiekgjaa
/-
  slices.SortStableFunc at own slices of rows, by any function that compares rows; edges by their ratios. No condition.
-/
namespace Go.Proofs.Ythlfdhooiekgjaa
open Go Go.RowKit Go.Sort

section
variable {env : Env} {os : List AO} {d : Option Tmp} {ty : TypeId} {pos : String} {af : Array Edge} {g : Option (Nat × Bool)}

set_option maxHeartbeats 2000000 in
theorem c_sortst {G : FuncId} {cmp : List Int → List Int → Int} {R : List Int → Prop} (hcmpok : CmpOk G cmp R) {x y : Operand} {ats : Array TypeId} {h : Nat} {e e2 : TypeId} {xss : List (List Int)} (hx : AV.ev env x = .own h) (hs : os[h]? = some (.sls e e2 xss)) (hy : AV.ev env y = .val (.func (.func G) #[] #[])) (hp : ∀ xs ∈ xss, R xs) (hn : 0 < xss.length ∧ xss.length ≤ 1048576) :
    COp Try.prog ⟨d, .call { callee := .value (.func 74), args := #[x, y], argTypes := ats }, ty, pos, af, g⟩ env os
      (fun r e' o => ∃ idx : List Nat, idx.Perm (List.range xss.length) ∧ (∀ i j : Nat, i < j → j < idx.length → ¬ cmp (xss.getD (idx.getD j 0) []) (xss.getD (idx.getD i 0) []) < 0) ∧ r = .any ∧ e' = env.mp (AV.noRow h) ∧ o = ((((os ++ [AO.sli e2 []]).map (AO.via (AV.noRow h) h)).set h (.sls e e2 (idx.map fun i => xss.getD i []))).set os.length .dead)) := by
  intro base w gs tm hr
  have hxv := hr.ev x
  rw [hx] at hxv
  have hyv := hr.evv hy
  generalize hv : Act.eval ⟨tm, []⟩ x = v at hxv
  cases hxv with
  | @own _ gh hg =>
  obtain ⟨us, bs, mb, b1, b2, b3, b4, b5, b6, b7, b8⟩ := hr.ho _ _ _ hg hs
  rcases b1.2 with ⟨_, c2⟩ | ⟨blk, cap, cur, c1, c2, c3, c4, c5, c6, c7⟩
  · omega
  have hmb : gh.v.ownBlock = some blk := by rw [c1]; rfl
  have hblk : blk ∈ mb := by
    rcases b6 with ⟨q1, _⟩ | ⟨q1, q2⟩
    · rw [hmb] at q1; cases q1
    · rw [hmb] at q1; cases q1; simp [q2]
  have hmb1 : ∀ b ∈ mb, b = blk := by
    rcases b6 with ⟨q1, _⟩ | ⟨q1, q2⟩
    · rw [hmb] at q1; cases q1
    · rw [hmb] at q1; cases q1; intro b hb; rw [q2] at hb; simpa using hb
  have a8' : (mb ++ bs.flatten).Nodup := by rw [← b7]; exact b8
  have hlt : blk < w.heap.size := (Array.getElem?_eq_some_iff.1 c3).1
  have hbl0 : ∀ b, b ∈ gh.bl → b < w.heap.size := fun b hb => (hr.hn _ _ _ hg hs (by simp) b hb).2
  have rowblk : ∀ (j : Nat) u, us[j]? = some u → ∀ c, u.ownBlock = some c → c ∈ bs.flatten := by
    intro j u hj c hc
    have hjb : j < bs.length := by
      have := (List.getElem?_eq_some_iff.1 hj).1
      omega
    exact List.mem_flatten.2 ⟨bs.getD j [], by rw [List.getD_eq_getElem?_getD, List.getElem?_eq_getElem hjb]; simp, by rw [← (b5 j u hj).2.2, hc]; simp⟩
  have flne : ∀ c, c ∈ bs.flatten → c ≠ blk ∧ c < w.heap.size := fun c hc => ⟨fun e => (List.nodup_append.1 a8').2.2 blk hblk c hc e.symm, hbl0 c (by rw [b7]; exact List.mem_append.2 (.inr hc))⟩
  -- the rows by their numbers
  let n := xss.length
  let ix : Nat → Nat := fun i => if i < n then i else 0
  have hix : ∀ i, ix i < n := fun i => by show (if i < n then i else 0) < n; split <;> omega
  let enc : Nat → Value := fun i => us.getD (ix i) undef
  let row : Nat → List Int := fun i => xss.getD (ix i) []
  let cf : Nat → Nat → Int := fun i j => cmp (row i) (row j)
  have hus : ∀ i, us[ix i]? = some (enc i) := fun i => by
    have : ix i < us.length := by rw [b2]; exact hix i
    show us[ix i]? = some (us.getD (ix i) undef)
    rw [List.getD_eq_getElem?_getD, List.getElem?_eq_getElem this]; rfl
  have hrow : ∀ i, R (row i) := fun i => by
    have : ix i < xss.length := hix i
    refine hp _ ?_
    show xss.getD (ix i) [] ∈ xss
    rw [List.getD_eq_getElem?_getD, List.getElem?_eq_getElem this]
    exact List.getElem_mem this
  have henc : ∀ i, ∃ c cp, enc i = .slice c (row i).length cp := fun i => by
    obtain ⟨q1, q2, q3⟩ := b5 _ _ (hus i)
    obtain ⟨ua, uc, eu⟩ := ownsRow_slice q1
    exact ⟨ua, uc, eu⟩
  have h1 : OneCell enc := fun i => by obtain ⟨c, cp, q⟩ := henc i; rw [q]; rfl
  have hlt' : ∀ i j, ltOf cf i j = true ↔ cmp (row i) (row j) < 0 := fun i j => by
    unfold ltOf
    rw [decide_eq_true_iff]
  have hlf : ∀ i j, ltOf cf i j = false ↔ ¬ cmp (row i) (row j) < 0 := fun i j => by
    rw [← hlt', Bool.not_eq_true]
  have hO : SWO (ltOf cf) := by
    refine ⟨fun i => ?_, fun i j k p q => ?_, fun i j k p q => ?_⟩
    · rw [hlf]; exact hcmpok.2.2.1 _ (hrow i)
    · rw [hlt'] at *; exact hcmpok.2.2.2.1 _ _ _ (hrow i) (hrow j) (hrow k) p q
    · rw [hlf] at *; exact hcmpok.2.2.2.2 _ _ _ (hrow i) (hrow j) (hrow k) p q
  have hbd : HasBody Try.prog 74 := ⟨_, _, Try.func74, by kernel_rfl, rfl⟩
  have hbc := hcmpok.1
  have hsz : (Array.range n).size = us.length := by simp [n, b2]
  have hcmp : CmpLays1 Try.prog G #[] enc cf blk 0 (Array.range n).size w := by
    intro m oss dk hdk i j
    have hat : ∀ i, IntsAt (sortWorld enc w blk 0 m dk oss) (fun _ => True) (enc i) (row i) := fun i => by
      obtain ⟨q1, q2, q3⟩ := b5 _ _ (hus i)
      refine ⟨RowAt.of_owns (base := base) (e := e2) (ownsRow_of_block q1 fun c hc => ?_), q2⟩
      have := flne c (rowblk _ _ (hus i) c hc)
      exact sw_other enc w blk m dk oss this.1 this.2
    exact hcmpok.2.1 _ _ _ _ _ (hat i) (hat j) (hrow i) (hrow j)
  have hH : Holds enc w blk 0 (Array.range n) := by
    intro j hj
    have hj' : j < n := by simpa using hj
    obtain ⟨b', cp, r1, r2, r3, r4⟩ := own_slice b1 (i := j) (by rw [b2]; exact hj')
    have : b' = blk := by rw [hmb] at r2; exact (Option.some.inj r2).symm
    subst this
    rw [Nat.zero_add]
    refine ⟨?_, r4⟩
    have e1 : (Array.range n)[j]! = j := by rw [getElem!_pos _ j (by simpa using hj')]; simp
    have e2 : ix j = j := if_pos hj'
    rw [r3, e1, ← hus j, e2]
  refine ⟨_, _, run_call hbd [x, y] ats _ rfl w, ?_⟩
  have hcall := slices_SortStableFunc enc h1 cf hO G #[] blk 0 cap (Array.range n) w (fun args w => hbc.run args w) hcmp hH hlt (by simp [n]; omega)
  have eargs : ([x, y].map (Act.eval ⟨tm, []⟩)).toArray = #[.slice (some ⟨blk, 0, none⟩) (Array.range n).size cap, .func (.func G) #[] #[]] := by
    simp only [List.map_cons, List.map_nil, hv, hyv, c1, hsz]
  rw [eargs]
  refine hcall.mono ?_
  rintro e' w' ⟨rfl, d', m, oss, ⟨p1, p2, p3⟩, hsort, rfl⟩
  have hdl : d'.size = n := by simpa using p1
  have hperm : d'.toList.Perm (List.range n) := by
    have e1 : (d'.extract 0 (Array.range n).size).toList = d'.toList := by simp; rw [List.take_of_length_le (by simp [hdl])]
    have e2 : ((Array.range n).extract 0 (Array.range n).size).toList = List.range n := by simp
    rw [e1, e2] at p3
    exact p3
  let idx := d'.toList
  have hil : idx.length = n := by simpa [idx] using hdl
  have hin : ∀ i ∈ idx, i < n := fun i hi => List.mem_range.1 (hperm.mem_iff.1 hi)
  have hind : idx.Nodup := hperm.nodup_iff.2 List.nodup_range
  let cs : List (List Nat) := idx.map fun i => bs.getD i []
  let us' : List Value := idx.map enc
  have hus' : ∀ i ∈ idx, us[i]? = some (enc i) := fun i hi => by
    have := hus i
    have e2 : ix i = i := if_pos (hin i hi)
    rwa [e2] at this
  let g' : Gh := ⟨gh.v, gh.b, mb ++ cs.flatten, us'⟩
  have hcs : ∀ b, b ∈ cs.flatten → b ∈ bs.flatten := by
    intro b hb
    obtain ⟨l, hl, hbl⟩ := List.mem_flatten.1 hb
    obtain ⟨i, hi, rfl⟩ := List.mem_map.1 hl
    have hi2 : i < bs.length := by rw [b3]; exact hin i hi
    rw [List.getD_eq_getElem?_getD, List.getElem?_eq_getElem hi2] at hbl
    exact List.mem_flatten.2 ⟨_, List.getElem_mem hi2, hbl⟩
  -- a dummy object, to be taken in
  let gd : Gh := ⟨.slice none 0 0, 0, [], []⟩
  have hr1 : Rel base w (gs ++ [gd]) env (os ++ [.sli e2 []]) tm := hr.new (Below.refl _ _) (.sli e2 []) gd (fun _ b hb => by simp [gd] at hb) ⟨World.ownsRow_nil w base e2 1, fun x hx => by simp at hx, .inl ⟨rfl, rfl⟩⟩
  have hgl : h < gs.length := (List.getElem?_eq_some_iff.1 hg).1
  have hol : h < os.length := (List.getElem?_eq_some_iff.1 hs).1
  have hg1 : (gs ++ [gd])[h]? = some gh := by rw [List.getElem?_append_left hgl]; exact hg
  have hs1 : (os ++ [AO.sli e2 []])[h]? = some (.sls e e2 xss) := by rw [List.getElem?_append_left hol]; exact hs
  have hgd : (gs ++ [gd])[os.length]? = some gd := by rw [← hr.hl]; simp
  have hod : (os ++ [AO.sli e2 []])[os.length]? = some (.sli e2 []) := by simp
  have sv : SameV h (gs ++ [gd]) ((gs ++ [gd]).set h g') := by
    refine ⟨fun j z hj hz => ?_, fun z hz => ⟨g', ?_, ?_, ?_⟩⟩
    · rw [List.getElem?_set, if_neg (fun e => hj e.symm)]; exact hz
    · rw [List.getElem?_set, if_pos rfl, if_pos (by simp; omega)]
    · rw [hg1] at hz; cases hz; rfl
    · rw [hg1] at hz; cases hz; rfl
  have hkeep : ∀ b, b < w.heap.size → b ≠ blk → (sortWorld enc w blk 0 m d' oss).heap[b]? = w.heap[b]? := fun b hb hne => sw_other enc w blk m d' oss hne hb
  have hblkbl : blk ∈ gh.bl := by rw [b7]; exact List.mem_append.2 (.inl hblk)
  refine ⟨.tuple #[], .any, _, _, (gs ++ [gd]).set h g', rfl, ⟨idx, hperm, ?_, rfl, rfl, rfl⟩, hr1.absorb hg1 hs1 trivial hgd hod trivial (by omega) g' _ (AV.noRow h) rfl (fun b hb hn => hkeep b hb fun e => hn (by rw [e]; exact hblkbl)) (by rw [sw_size]; omega) ?_ (fun kp hv => hv.noRow kp sv) ?_, .any _, ?_⟩
  · intro i j hij hj
    have hj2 : j < d'.size := by rw [hdl, ← hil]; exact hj
    have hs2 := hsort i j (Nat.zero_le _) hij (by simpa using (by omega : j < n))
    rw [hlf, getElem!_pos d' j hj2, getElem!_pos d' i (by omega)] at hs2
    have q : ∀ a (ha : a < d'.size), row d'[a] = xss.getD (idx.getD a 0) [] := fun a ha => by
      have e3 : idx.getD a 0 = d'[a] := by
        show d'.toList.getD a 0 = _
        rw [List.getD_eq_getElem?_getD, Array.getElem?_toList, Array.getElem?_eq_getElem ha]; rfl
      have e4 : d'[a] < n := hin _ (by show d'[a] ∈ d'.toList; simp)
      rw [e3]
      show xss.getD (ix d'[a]) [] = _
      rw [show ix d'[a] = d'[a] from if_pos e4]
    rw [q j hj2, q i (by omega)] at hs2
    exact hs2
  · intro b hb
    have hbb : b ∈ gh.bl := by
      rw [b7]
      rcases List.mem_append.1 hb with hb | hb
      · exact List.mem_append.2 (.inl hb)
      · exact List.mem_append.2 (.inr (hcs b hb))
    refine ⟨.inl hbb, ?_⟩
    rw [sw_size]
    have := hbl0 b hbb
    omega
  · intro kp
    refine ⟨us', cs, mb, ?_, by simp [us'], by simp [cs], rfl, fun j u hj => ?_, b6, rfl, ?_⟩
    · refine ⟨by simp, .inr ⟨blk, cap, _, ?_, c2, sw_row enc w blk m d' oss c3, ?_, c5, ?_, ?_⟩⟩
      · show gh.v = _
        rw [c1]
        have : us'.length = us.length := by simp [us', hil, b2, n]
        rw [this]
      · have : us'.length = us.length := by simp [us', hil, b2, n]
        omega
      · simpa [putCells] using c6
      · have : us'.length * 1 = d'.size := by simp [us', hil, hdl]
        rw [this]
        exact take_put enc d' cur (by rw [c6, hdl]; omega)
    · obtain ⟨i, hi, rfl⟩ : ∃ i, idx[j]? = some i ∧ enc i = u := by
        rw [List.getElem?_map] at hj
        cases hjx : idx[j]? with
        | none => rw [hjx] at hj; cases hj
        | some i => rw [hjx] at hj; exact ⟨i, rfl, Option.some.inj hj⟩
      have him := List.mem_of_getElem? hi
      have g1 : (idx.map fun i => xss.getD i []).getD j [] = xss.getD i [] := by
        rw [List.getD_eq_getElem?_getD, List.getElem?_map, hi]; rfl
      have g2 : cs.getD j [] = bs.getD i [] := by
        show (idx.map fun i => bs.getD i []).getD j [] = _
        rw [List.getD_eq_getElem?_getD, List.getElem?_map, hi]; rfl
      obtain ⟨q1, q2, q3⟩ := b5 i _ (hus' i him)
      rw [g1, g2]
      refine ⟨ownsRow_of_block q1 fun c hc => ?_, q2, q3⟩
      have hcf := rowblk i _ (hus' i him) c hc
      exact hkeep c (flne c hcf).2 (flne c hcf).1
    · show (mb ++ cs.flatten).Nodup
      rw [List.nodup_append] at a8' ⊢
      refine ⟨a8'.1, nodup_sel a8'.2.1 hind (fun i hi => by rw [b3]; exact hin i hi), fun a ha b hb e => a8'.2.2 a ha b (hcs b hb) e⟩
  · refine ⟨rfl, rfl, rfl, by rw [sw_size]; omega, fun b hb => hkeep b (by have := hr.hb; omega) fun e => ?_⟩
    omega
end

section
variable {env : Env} {os : List AO} {d : Tmp} {ty : TypeId} {pos : String} {af : Array Edge} {l rest : List Oper} {K : APost}
theorem w_sortst {G : FuncId} {cmp : List Int → List Int → Int} {R : List Int → Prop} (hcmpok : CmpOk G cmp R) {x y : Operand} {ats : Array TypeId} {h : Nat} {e e2 : TypeId} {xss : List (List Int)} (hp : ∀ xs ∈ xss, R xs) (hn : 0 < xss.length ∧ xss.length ≤ 1048576) (hx : evo env x = some (.own h)) (hs : os[h]? = some (.sls e e2 xss)) (hy : evo env y = some (.val (.func (.func G) #[] #[])))
    (h' : ∀ idx : List Nat, idx.Perm (List.range xss.length) → (∀ i j : Nat, i < j → j < idx.length → ¬ cmp (xss.getD (idx.getD j 0) []) (xss.getD (idx.getD i 0) []) < 0) → AOps Try.prog .seq l rest K (Env.up (env.mp (AV.noRow h)) d .any) ((((os ++ [AO.sli e2 []]).map (AO.via (AV.noRow h) h)).set h (.sls e e2 (idx.map fun i => xss.getD i []))).set os.length .dead)) :
    AOps Try.prog .seq l (⟨some d, .call { callee := .value (.func 74), args := #[x, y], argTypes := ats }, ty, pos, af, none⟩ :: rest) K env os :=
  AOps.ca (c_sortst hcmpok (ev_of hx) hs (ev_of hy) hp hn) fun r e o ⟨idx, h1, h2, h3, h4, h5⟩ => by subst h3; subst h4; subst h5; exact h' idx h1 h2
end


/-! ### Edges by their ratios -/
def cmp3 (x y : Int) : Int := if x < y then -1 else if y < x then 1 else 0
theorem cmp3_lt (x y : Int) : cmp3 x y < 0 ↔ x < y := by unfold cmp3; split; omega; split <;> omega
theorem compared_k (x y : Int) (w : World) : Calls Try.prog 76 #[.int .i64 x, .int .i64 y] w fun e w' => e = .returned (.int .i64 (cmp3 x y)) ∧ w' = w := by
  unfold cmp3
  by_cases h1 : x < y
  · rw [if_pos h1]
    go_enter Try.func76, Try.ntmps76
    go_wp2
    go_ret
    exact ⟨rfl, rfl⟩
  · rw [if_neg h1]
    by_cases h2 : y < x
    · rw [if_pos h2]
      go_enter Try.func76, Try.ntmps76
      go_wp2
      go_ret
      exact ⟨rfl, rfl⟩
    · rw [if_neg h2]
      go_enter Try.func76, Try.ntmps76
      go_wp2
      go_ret
      exact ⟨rfl, rfl⟩
set_option maxHeartbeats 4000000 in
theorem joined_k (b1 o1 c1 b2 o2 c2 : Nat) (x0 x1 y0 y1 : Int) (w : World) (h0 : w.cell? ⟨b1, o1, none⟩ = some (.int .i64 x0)) (h1 : w.cell? ⟨b1, o1 + 1, none⟩ = some (.int .i64 x1)) (g0 : w.cell? ⟨b2, o2, none⟩ = some (.int .i64 y0)) (g1 : w.cell? ⟨b2, o2 + 1, none⟩ = some (.int .i64 y1))
    (r1 : IntKind.i64.wrap (y1 * x0) = y1 * x0) (r2 : IntKind.i64.wrap (x1 * y0) = x1 * y0) :
    Calls Try.prog 75 #[.slice (some ⟨b1, o1, none⟩) 2 c1, .slice (some ⟨b2, o2, none⟩) 2 c2] w fun e w' => e = .returned (.int .i64 (cmp3 (y1 * x0) (x1 * y0))) ∧ ∃ q, w' = w.drewN q := by
  have mixed : Try.prog.follows Departure.mixedOrders = true := by kernel_rfl
  go_enter Try.func75, Try.ntmps75
  go_wp2_with fail
  go_quiet (first | (go_at_call 76; refine Calls.quiet_of_same (compared_k _ _ _)))
  go_wp2
  go_ret
  exact ⟨rfl, _, rfl⟩
end Go.Proofs.Ythlfdhooiekgjaa
