import Derived.Test.YtadkdfecmpjmdaaGreatDoorPa
import Derived.Test.YtadkdfecmpjmdaaGreatDoorHY
import Derived.Test.YtadkdfecmpjmdaaGreatDoorProg
import Derived.Shelf.Strings.Builder1
import Derived.Test.YtadkdfecmpjmdaaGreatDoorHQ
import Derived.Test.YtadkdfecmpjmdaaGreatDoorHZ
import Derived.Lib.Bytealg
set_option linter.unusedVariables false
set_option linter.unusedSimpArgs false
namespace Go.Proofs.YtadkdfecmpjmdaaGreatDoor.Hc
open Go Go.H Go.Proofs
set_option maxRecDepth 100000
open Go Go.H Go.Proofs
set_option maxRecDepth 100000
set_option maxHeartbeats 4000000
structure VOk (v : VV) : Prop where
  k : 0 ≤ v.k ∧ v.k ≤ 7
  n : -9007199254740991 ≤ v.n ∧ v.n ≤ 9007199254740991
  s : v.s.size ≤ 8192
  even : v.s.size % 2 = 0
  txt : v.k ≠ 4 → v.s = noS
  num : v.k ≠ 2 → v.k ≠ 3 → v.k ≠ 7 → v.n = 0
  bool : v.k = 2 → v.n = 0 ∨ v.n = 1
theorem VOk.i {v : VV} (x : VOk v) : i64 v.n := by have := x.n; constructor <;> omega
structure Good (H : PH) : Prop where
  pro : ∀ (i : Nat) (hi : i < H.objs.length), H.objs[i].proto = nullV ∨ (H.objs[i].proto.k = 7 ∧ H.objs[i].proto.s = noS ∧ 1 ≤ H.objs[i].proto.n ∧ H.objs[i].proto.n ≤ i)
  keys : ∀ o ∈ H.objs, KeysOk o
  vals : ∀ o ∈ H.objs, ∀ p ∈ o.props, VOk p.2 ∧ p.1.size ≤ 2097152
  len : (H.objs.length : Int) ≤ H.used
  props : ∀ o ∈ H.objs, (o.props.length : Int) ≤ H.used
  used : H.used ≤ H.most
  most : H.most ≤ 100000
  nlen : ∀ o ∈ H.objs, isArr o = true → ∀ p ∈ o.props, p.1 ≠ lenK
theorem Good.wf {H : PH} (g : Good H) : Wf H := by
  refine ⟨fun i hi j hj => ?_, fun i hi => ?_⟩
  · rcases g.pro i hi with e | ⟨h1, h2, h3, h4⟩
    · rw [e] at hj; unfold atP at hj; rw [if_neg (by rintro ⟨h, _⟩; cases h)] at hj; cases hj
    · unfold atP at hj
      split at hj
      · cases hj; omega
      · cases hj
  · rcases g.pro i hi with e | ⟨h1, h2, h3, h4⟩
    · rw [e]; constructor <;> decide
    · have := g.len; have := g.used; have := g.most
      constructor <;> omega
theorem Good.few {H : PH} (g : Good H) : Few H := by
  have := g.len; have := g.used; have := g.most
  exact ⟨by omega, fun o ho => by have := g.props o ho; omega⟩
theorem good_new (most : Int) (h0 : 0 ≤ most) (h1 : most ≤ 100000) : Good ⟨[], most, 0⟩ :=
  ⟨fun i hi => by simp at hi, fun o ho => by simp at ho, fun o ho => by simp at ho, by simp, fun o ho => by simp at ho, h0, h1, fun o ho => by simp at ho⟩
theorem at_ge {H : PH} {v : VV} {i : Nat} (h : atP H v = some i) : v.k = 7 ∧ v.s = noS ∧ 1 ≤ v.n ∧ v.n ≤ (H.objs.length : Int) ∧ i = v.n.toNat - 1 := by
  unfold atP at h
  split at h
  · rename_i h1; cases h; exact ⟨h1.1, h1.2.1, h1.2.2.1, h1.2.2.2, rfl⟩
  · cases h
theorem good_make {H : PH} (g : Good H) (cls : ByteArray) (v : VV) : Good (makeP H cls v) := by
  unfold makeP
  split
  · exact g
  rename_i hc
  have h1 := g.len
  refine ⟨fun i hi => ?_, fun o ho => ?_, fun o ho => ?_, by simp; omega, fun o ho => ?_, by show H.used + 1 ≤ H.most; omega, g.most, fun o ho => ?_⟩
  · simp only [List.length_append, List.length_cons, List.length_nil] at hi
    by_cases hl : i < H.objs.length
    · simp only [List.getElem_append_left hl]; exact g.pro i hl
    · have e : i = H.objs.length := by omega
      subst e
      simp only [List.getElem_append_right (Nat.le_refl _), Nat.sub_self, List.getElem_cons_zero]
      cases ha : atP H v with
      | none => left; rw [if_pos (findP_none ha)]
      | some j =>
        obtain ⟨a, b, c, d, _⟩ := at_ge ha
        right
        rw [if_neg (by rw [findP_some ha]; simp)]
        exact ⟨a, b, c, d⟩
  all_goals
    simp only [List.mem_append, List.mem_singleton] at ho
    rcases ho with ho | rfl
  · exact g.keys o ho
  · exact ⟨by simp [KNd], fun p hp => by simp at hp, fun _ p hp => by simp at hp, by simp, by simp⟩
  · exact g.vals o ho
  · intro p hp; simp at hp
  · have := g.props o ho; show (o.props.length : Int) ≤ H.used + 1; omega
  · show ((0 : Nat) : Int) ≤ H.used + 1; omega
  · exact g.nlen o ho
  · intro _ p hp; simp at hp
theorem good_upd {H : PH} (g : Good H) {i : Nat} (hi : i < H.objs.length) {o : PO} {u : Int} (hu : H.used ≤ u) (hum : u ≤ H.most) (hp : o.proto = H.objs[i].proto) (k : KeysOk o) (vs : ∀ p ∈ o.props, VOk p.2 ∧ p.1.size ≤ 2097152) (hl : (o.props.length : Int) ≤ u) (hn : isArr o = true → ∀ p ∈ o.props, p.1 ≠ lenK) : Good ⟨H.objs.set i o, H.most, u⟩ := by
  have h1 := g.len
  have mem : ∀ {q}, q ∈ H.objs.set i o → q = o ∨ q ∈ H.objs := fun hq => (List.mem_or_eq_of_mem_set hq).symm
  refine ⟨fun j hj => ?_, fun q hq => ?_, fun q hq => ?_, by simp; omega, fun q hq => ?_, hum, g.most, fun q hq => ?_⟩
  · have hj' : j < H.objs.length := by simpa using hj
    simp only [List.getElem_set]
    split
    · rename_i e; subst e; rw [hp]; exact g.pro i hi
    · exact g.pro j hj'
  · rcases mem hq with rfl | hq
    · exact k
    · exact g.keys q hq
  · rcases mem hq with rfl | hq
    · exact vs
    · exact g.vals q hq
  · rcases mem hq with rfl | hq
    · exact hl
    · have := g.props q hq; show (q.props.length : Int) ≤ u; omega
  · rcases mem hq with rfl | hq
    · exact hn
    · exact g.nlen q hq
theorem lookP_find {key : ByteArray} {l : List KV} : lookP key l = none ↔ findI key l = none := by
  constructor
  · intro h
    cases hf : findI key l with
    | none => rfl
    | some i => obtain ⟨_, _, e⟩ := findI_some hf; rw [e] at h; cases h
  · intro h; exact (findI_none h).1
theorem lookP_some {key : ByteArray} {l : List KV} {v : VV} (h : lookP key l = some v) : ∃ i, ∃ hi : i < l.length, findI key l = some i ∧ l[i].1 = key ∧ l[i].2 = v := by
  cases hf : findI key l with
  | none => rw [(findI_none hf).1] at h; cases h
  | some i =>
    obtain ⟨hi, e1, e2⟩ := findI_some hf
    rw [e2] at h
    exact ⟨i, hi, rfl, e1, Option.some.inj h⟩
theorem good_put {H : PH} (g : Good H) (v : VV) (key : ByteArray) (x : VV) (hx : VOk x) (he : key.size % 2 = 0) (hs : key.size ≤ 2097152) : Good (putP H v key x) := by
  unfold putP
  cases ha : atP H v with
  | none => exact g
  | some i =>
    have hi := atP_lt ha
    show Good (match H.objs[i]? with | none => H | some o => putO H i o key x)
    rw [List.getElem?_eq_getElem hi]
    show Good (putO H i H.objs[i] key x)
    have ho : H.objs[i] ∈ H.objs := List.getElem_mem hi
    have k := g.keys _ ho
    have vs := g.vals _ ho
    have hl := g.props _ ho
    have hu := g.used
    have hn := g.nlen _ ho
    unfold putO
    split
    · rename_i hlen
      have har : isArr H.objs[i] = true := by unfold isLenP at hlen; simp at hlen; exact hlen.1
      split
      · rename_i hr
        have sub : ∀ p, p ∈ (sizeP H.objs[i] x.n.toNat).props → p ∈ H.objs[i].props := fun p hp => (List.mem_filter.1 hp).1
        refine good_upd g hi (Int.le_refl _) hu rfl ⟨knd_filter k.nd _, fun p hp => k.even p (sub p hp), fun _ p hp j hj => ?_, Nat.le_trans (List.length_filter_le _ _) k.few, ?_⟩ (fun p hp => vs p (sub p hp)) ?_ fun _ p hp => hn har p (sub p hp)
        · have := (List.mem_filter.1 hp).2
          simp only [hj] at this
          exact of_decide_eq_true this
        · show x.n.toNat ≤ 1000; omega
        · have : (sizeP H.objs[i] x.n.toNat).props.length ≤ H.objs[i].props.length := List.length_filter_le _ _
          omega
      · exact g
    · rename_i hlen
      have hkl : isArr H.objs[i] = true → key ≠ lenK := fun h1 h2 => hlen (by unfold isLenP; rw [h1, h2, (strEq_iff _ _).2 rfl]; rfl)
      cases hlk : lookP key H.objs[i].props with
      | some w =>
        obtain ⟨j, hj, hf, e1, e2⟩ := lookP_some hlk
        have es := setP_at (x := x) hf
        have mem : ∀ {q}, q ∈ setP key x H.objs[i].props → q = (key, x) ∨ q ∈ H.objs[i].props := fun hq => by rw [es] at hq; exact (List.mem_or_eq_of_mem_set hq).symm
        have hin : H.objs[i].props[j] ∈ H.objs[i].props := List.getElem_mem hj
        have hlen2 : (setP key x H.objs[i].props).length = H.objs[i].props.length := by rw [es, List.length_set]
        refine good_upd g hi (Int.le_refl _) hu rfl ⟨?_, fun p hp => ?_, fun har p hp m hm => ?_, by show (setP key x H.objs[i].props).length ≤ _; rw [hlen2]; exact k.few, k.long⟩ (fun p hp => ?_) (by show ((setP key x H.objs[i].props).length : Int) ≤ _; rw [hlen2]; exact hl) fun har p hp => ?_
        · show KNd (setP key x H.objs[i].props)
          unfold KNd
          rw [es, set_keys hj e1]
          exact k.nd
        · rcases mem hp with rfl | hp
          · exact he
          · exact k.even p hp
        · rcases mem hp with rfl | hp
          · exact k.low har _ hin m (by rw [e1]; exact hm)
          · exact k.low har p hp m hm
        · rcases mem hp with rfl | hp
          · exact ⟨hx, hs⟩
          · exact vs p hp
        · rcases mem hp with rfl | hp
          · exact hkl har
          · exact hn har p hp
      | none =>
        show Good (if farP H.objs[i] key = true then H else if H.most - H.used < 1 then H else _)
        split
        · exact g
        split
        · exact g
        rename_i hfar hm
        have hf := lookP_find.1 hlk
        have hmost := g.most
        have hlo : H.objs[i].long ≤ longP H.objs[i] key := by unfold longP; split <;> omega
        have mem : ∀ {q}, q ∈ H.objs[i].props ++ [(key, x)] → q = (key, x) ∨ q ∈ H.objs[i].props := fun hq => by
          simp only [List.mem_append, List.mem_singleton] at hq; exact hq.symm
        refine good_upd g hi (by omega) (by omega) rfl ⟨?_, fun p hp => ?_, fun har p hp m hm => ?_, by simp; omega, ?_⟩ (fun p hp => ?_) (by simp; omega) fun har p hp => ?_
        · unfold KNd
          rw [List.map_append, List.nodup_append]
          refine ⟨k.nd, by simp, fun a ha b hb e => ?_⟩
          simp only [List.map_cons, List.map_nil, List.mem_singleton] at hb
          obtain ⟨p, hp, rfl⟩ := List.mem_map.1 ha
          exact (findI_none hf).2 p hp (e.trans hb)
        · rcases mem hp with rfl | hp
          · exact he
          · exact k.even p hp
        · have har' : isArr H.objs[i] = true := har
          show m < longP H.objs[i] key
          rcases mem hp with rfl | hp
          · unfold longP arrIx
            rw [if_pos har']
            simp only [hm]
            omega
          · have := k.low har' p hp m hm; omega
        · show longP H.objs[i] key ≤ 1000
          have := k.long
          unfold farP at hfar
          unfold longP
          cases hix : arrIx H.objs[i] key with
          | none => exact this
          | some j =>
            simp only [hix, decide_eq_true_eq] at hfar
            show max H.objs[i].long (j + 1) ≤ 1000
            omega
        · rcases mem hp with rfl | hp
          · exact ⟨hx, hs⟩
          · exact vs p hp
        · rcases mem hp with rfl | hp
          · exact hkl har
          · exact hn har p hp
set_option maxHeartbeats 16000000
theorem ownP_len {o : PO} {key : ByteArray} (h : isLenP o key = true) : isArr o = true := by unfold isLenP at h; simp at h; exact h.1
theorem put_spec {h : Heap} {bh : Nat} {H : PH} {Z : HZ} (x : HeapR h bh H Z) (g : Good H) (v : VV) (hn : i64 v.n) (key : ByteArray) (y : VV) (hy : i64 y.n) (hk : key.size ≤ 2097152) :
    HCalls Tryz.prog 44 #[.pointer (some ⟨bh, 0, none⟩), .agg (cellsV v).toArray, .string key, .agg (cellsV y).toArray] h fun e h' => ∃ (n : Int) (Z' : HZ), e = .returned (.int .i64 n) ∧
      HeapR h' bh (putP H v key y) Z' ∧ PassF (Z.bs bh) (Z'.bs bh) h h' := by
  refine c44 (by simp) ?_
  have few := g.few
  have gu := g.used
  have gm := g.most
  have gl := g.len
  refine gA ?_
  refine new_var (e := 24) (cellsV v) rfl ?_
  intro h1 b5 o5 x1 z1 hb5
  refine gA ?_
  refine new_var (e := 24) (cellsV y) rfl ?_
  intro h2 b7 o7 x2 z2 hb7
  have o5 := o5.ext x2
  have x02 := x1.trans x2
  have hbh := x.b.lt
  have hx1 := x1.1
  have hlt := x.lt
  refine gA ?_
  refine HCall.mk ((find_spec (x.ext x02) v hn few.len).mono ?_)
  rintro e h3 ⟨rfl, x3⟩
  have o5 := o5.ext x3
  have o7 := o7.ext x3
  have x03 := x02.trans x3
  cases ha : atP H v with
  | none =>
    rw [ptr_none]
    have q : (bif false then !(none : Option Addr).isNone else (none : Option Addr).isNone) = true := rfl
    refine gA ?_
    have ei : putP H v key y = H := by unfold putP; rw [ha]
    rw [ei]
    exact ⟨_, Z, rfl, x.ext x03, .of_ext x03⟩
  | some i =>
    have hi := atP_lt ha
    have hz : i < Z.os.length := by have := x.len; omega
    rw [ptr_some hz]
    have q : (bif false then !(some (⟨Z.os[i].bi, 0, none⟩ : Addr)).isNone else (some (⟨Z.os[i].bi, 0, none⟩ : Addr)).isNone) = false := rfl
    have ei : putP H v key y = putO H i H.objs[i] key y := by
      unfold putP; rw [ha]
      show (match H.objs[i]? with | none => H | some o => putO H i o key y) = _
      rw [List.getElem?_eq_getElem hi]
    rw [ei]
    have ho : H.objs[i] ∈ H.objs := List.getElem_mem hi
    have hpl := few.props _ ho
    have kok := g.keys _ ho
    refine gA ?_
    refine HCall.mk ((seek_spec (x.ext x03) g.wf few v hn key).mono ?_)
    rintro e h4 ⟨e1, e2, rfl, x4⟩
    have o7 := o7.ext x4
    have l7 := o7.lt
    have x04 := x03.trans x4
    have hlc := propC_len key e1 e2 (seekL key (chainP H v))
    refine gA ?_
    refine new_var (e := 53) zeroK rfl ?_
    intro h5 b10 o10 x5 z5 hb10
    have o7 := o7.ext x5
    have hx4 := x04.1
    refine gA ?_
    refine HMust.mk (by simp [propC_len]) ?_
    refine store_blk o10 (by simp [propC_len]) (by simpa using propC_one key e1 e2 (seekL key (chainP H v))) ?_
    intro h6 f6 z6 o6
    replace o6 : BlkW h6 b10 53 (propC key e1 e2 (seekL key (chainP H v))) := by simpa [propC_len] using o6
    have o7 := o7.offk f6 (by omega)
    have x06 : Ext h h6 := (x04.trans x5).offNew f6 (by omega)
    have x6 := x.ext x06
    have xi := x6.all i hi hz
    have xnd := nodup_in x.nds.2.2 hz
    have hx6 := x06.1
    have o6' : (seekL key (chainP H v)).isSome = false ∨ ((seekL key (chainP H v)).isSome = true ∧ ∃ w : VV, BlkW h6 b10 53 [.string key, .int .i64 w.k, .int .i64 w.n, .string w.s, .bool true, .bool e1, .bool e2]) := by
      cases hs : seekL key (chainP H v) with
      | none => exact .inl rfl
      | some w => rw [hs] at o6; exact .inr ⟨rfl, w, o6⟩
    clear o6
    rcases o6' with q2 | ⟨q2, w, o6⟩
    all_goals
      refine gA ?_
      refine HCall.mk ((isLen_spec xi key).mono ?_)
      rintro e h7 ⟨rfl, rfl⟩
      unfold putO
      cases hlen : isLenP H.objs[i] key
      · rw [if_neg (show ¬ (false = true) by simp)]
        have ob := xi.b
        obtain ⟨L, m, pl⟩ := xi.m
        have hpk := pl key
        refine gA ?_
        refine m.look keyOk_string key (fun hno es clock => ?_) (fun k hv es clock j => ?_)
        · have hf : findI key H.objs[i].props = none := by
            rw [hno] at hpk
            exact Option.map_eq_none_iff.1 hpk.symm
          rw [(findI_none hf).1]
          refine gA ?_
          refine HCall.mk ((hadd_spec x6 hi hz key y hk hf hpl (by have := kok.long; omega) ⟨by omega, by omega⟩ (by omega) (by omega) (by omega) (by omega)).mono ?_)
          rintro e h8 ⟨n, Z', rfl, x8, K8⟩
          refine gA ?_
          exact ⟨n, Z', rfl, x8, (PassF.of_ext x06).trans K8⟩
        · have hf : ∃ a, findI key H.objs[i].props = some a ∧ k = (a : Int) := by
            rw [hv] at hpk
            cases hfi : findI key H.objs[i].props with
            | none => rw [hfi] at hpk; cases hpk
            | some a => rw [hfi] at hpk; exact ⟨a, rfl, by simpa using hpk⟩
          obtain ⟨a, hf, rfl⟩ := hf
          obtain ⟨hal, hak, hlk⟩ := findI_some hf
          rw [hlk]
          refine gA ?_
          refine HIdx.mk a rfl hal ?_
          refine sl_some xi.p.sl hal fun p ep => ?_
          refine gA ?_
          refine Own.setV xi.p ep hal y fun h8 f8 z8 w8 => ?_
          have nds := OZ.nds xnd
          have hpb := nds.2 p ep
          have xs : ObjR h8 ⟨H.objs[i].cls, H.objs[i].proto, setP key y H.objs[i].props, H.objs[i].long⟩ Z.os[i] := by
            rw [setP_at hf, ← hak]
            refine ⟨?_, w8, L, m.offk f8 (Ne.symm hpb.2), fun key' => ?_⟩
            · show BlkW h8 Z.os[i].bi 102 [.string H.objs[i].cls, .int .i64 H.objs[i].proto.k, .int .i64 H.objs[i].proto.n, .string H.objs[i].proto.s, .slice Z.os[i].pa (H.objs[i].props.set a (H.objs[i].props[a].1, y)).length Z.os[i].pc, .map (some Z.os[i].mi), .bool false, .int .i64 H.objs[i].long, .bool false]
              rw [List.length_set]; exact ob.offk f8 (Ne.symm hpb.1)
            · rw [pl key']
              show _ = (findI key' (H.objs[i].props.set a (H.objs[i].props[a].1, y))).map (fun i : Nat => (i : Int))
              rw [findI_keys (set_keys hal rfl)]
          obtain ⟨u1, u2⟩ := x6.upd hi hz rfl (.of_off f8 (.inl (by have := blk_mem ep; simp [OZ.bs, this]))) xs xnd
          refine gA ?_
          exact ⟨_, _, rfl, u1, (PassF.of_ext x06).trans u2⟩
      · rw [if_pos rfl]
        refine gA ?_
        refine HCall.mk ((resize_spec xi xnd kok (ownP_len hlen) y hy).mono ?_)
        rintro e h8 ⟨n, rfl, xs, K8⟩
        obtain ⟨u1, u2⟩ := x6.upd hi hz rfl K8 xs xnd
        have eu : updP H i (sizeV H.objs[i] y) = if y.k = 3 ∧ 0 ≤ y.n ∧ y.n ≤ 1000 then updP H i (sizeP H.objs[i] y.n.toNat) else H := by
          unfold sizeV
          split
          · rfl
          · unfold updP; rw [List.set_getElem_self]
        rw [eu] at u1
        refine gA ?_
        exact ⟨_, _, rfl, u1, (PassF.of_ext x06).trans u2⟩
set_option maxHeartbeats 4000000
theorem zeroCells_flat (zs : List Value) (n : Nat) : Builtin.zeroCells zs.toArray n = ((List.replicate n zs).flatten).toArray := by
  have key : ∀ n, (List.range (n * zs.length)).map (fun i => zs[i % zs.length]!) = (List.replicate n zs).flatten := by
    intro n
    induction n with
    | zero => simp
    | succ n ih =>
      rw [Nat.succ_mul, List.range_add, List.map_append, ih, List.replicate_succ', List.flatten_append]
      congr 1
      rw [List.map_map]
      apply List.ext_getElem
      · simp
      · intro i h1 h2
        have hi : i < zs.length := by simpa using h1
        simp [Nat.add_mod, Nat.mod_eq_of_lt hi, hi]
  apply Array.ext'
  rw [← key n]
  unfold Builtin.zeroCells
  simp
theorem flat_get {α : Type} {f : α → List Value} {s : Nat} (hf : ∀ a, (f a).length = s) : ∀ (l : List α), (l.flatMap f).length = l.length * s
  | [] => by simp
  | a :: r => by rw [List.flatMap_cons, List.length_append, hf, flat_get hf r, List.length_cons, Nat.succ_mul]; omega
theorem flat_set {α : Type} {f : α → List Value} {s : Nat} (hf : ∀ a, (f a).length = s) {l : List α} {i : Nat} {y : α} {sp : List Value} (hi : i < l.length) :
    (l.flatMap f ++ sp).take (i * s) ++ (f y ++ (l.flatMap f ++ sp).drop (i * s + (f y).length)) = (l.set i y).flatMap f ++ sp := by
  have e1 : l.flatMap f = (l.take i).flatMap f ++ (f l[i] ++ (l.drop (i + 1)).flatMap f) := by
    conv => lhs; rw [← List.take_append_drop i l, List.drop_eq_getElem_cons hi, List.flatMap_append]
    rfl
  have e2 : (l.set i y).flatMap f = (l.take i).flatMap f ++ (f y ++ (l.drop (i + 1)).flatMap f) := by
    rw [List.set_eq_take_append_cons_drop, if_pos hi, List.flatMap_append]
    try rfl
  have hA : ((l.take i).flatMap f).length = i * s := by rw [flat_get hf, List.length_take, Nat.min_eq_left (by omega)]
  rw [e1, e2]
  generalize (l.take i).flatMap f = A at hA ⊢
  generalize (l.drop (i + 1)).flatMap f = B
  have h1 := hf l[i]
  have h2 := hf y
  rw [← hA, List.append_assoc, List.take_left, List.drop_append, List.drop_of_length_le (by omega), List.nil_append, Nat.add_sub_cancel_left, List.append_assoc, List.drop_append, List.drop_of_length_le (by omega), List.nil_append, h1, h2, Nat.sub_self, List.drop_zero]
  simp
theorem Own.storeEl {α : Type} {f : α → List Value} {s : Nat} (hf : ∀ a, (f a).length = s) {h : Heap} {B e c i : Nat} {a : Option Addr} {l : List α} {p : Addr} {K : Heap → Prop} (w : Own h B e s a l.length c (l.flatMap f)) (ep : a = some p) (hi : i < l.length) (y : α) (one : ∀ v ∈ f y, isOne v = true)
    (k : ∀ h', Off p.block h h' → h'.size = h.size → Own h' B e s a (l.set i y).length c ((l.set i y).flatMap f) → K h') : HStore h (p.add (i * s)) (f y) K := by
  obtain ⟨h1, h2, h3, h4⟩ := w
  obtain ⟨b, spare, rfl, hb, hs, z⟩ := h4 p ep
  have hl := flat_get hf l
  have hy := hf y
  rw [add_mk, Nat.zero_add]
  have hle : (i + 1) * s ≤ l.length * s := Nat.mul_le_mul_right s hi
  rw [Nat.succ_mul] at hle
  refine store_blk z (by rw [List.length_append]; omega) one ?_
  intro h' g z2 y'
  rw [flat_set hf hi] at y'
  refine k h' g z2 ⟨by rw [flat_get hf], by rw [List.length_set]; exact h2, h3, fun p' ep' => ?_⟩
  rw [ep] at ep'
  cases ep'
  exact ⟨b, spare, rfl, hb, by rw [List.length_set]; exact hs, y'⟩
theorem elemsP_eq (H : PH) (v : VV) : elemsP H v = (List.range (hlenP H v)).map fun i => elemP i (chainP H v) := by
  unfold elemsP hlenP
  cases findP H v with
  | none => rfl
  | some o =>
    show (if isArr o = true then _ else _) = (List.range (if isArr o = true then o.long else 0)).map _
    split <;> rfl
def Gath (n : Nat) (E : Nat → VV) (R : Nat → VV) (l : List VV) (met : List Bool) : Prop :=
  l.length = n ∧ met.length = n ∧ ∀ i (h1 : i < l.length) (h2 : i < met.length), (met[i] = true → l[i] = E i) ∧ (met[i] = false → l[i] = undefV ∧ E i = R i)
theorem gath_start (n : Nat) (E : Nat → VV) : Gath n E E (List.replicate n undefV) (List.replicate n false) :=
  ⟨by simp, by simp, fun i h1 h2 => by simp⟩
theorem gath_end {n : Nat} {E : Nat → VV} {l : List VV} {met : List Bool} (g : Gath n E (fun _ => undefV) l met) : l = (List.range n).map E := by
  obtain ⟨h1, h2, h3⟩ := g
  apply List.ext_getElem
  · simp [h1]
  · intro i h4 h5
    rw [List.getElem_map, List.getElem_range]
    have := h3 i h4 (by omega)
    cases hm : met[i]'(by omega) with
    | true => exact this.1 hm
    | false => obtain ⟨a, b⟩ := this.2 hm; rw [a, b]
def propsE (ps : List KV) (rest : List PO) (i : Nat) : VV := match ps.find? (fun p => decide (idxK p.1 = some i)) with
  | some p => p.2
  | none => elemP i rest
theorem propsE_cons_ne {p : KV} {ps : List KV} {rest : List PO} {i : Nat} (h : idxK p.1 ≠ some i) : propsE (p :: ps) rest i = propsE ps rest i := by
  unfold propsE; rw [List.find?_cons_of_neg (by simp [h])]
theorem propsE_cons_eq {p : KV} {ps : List KV} {rest : List PO} {i : Nat} (h : idxK p.1 = some i) : propsE (p :: ps) rest i = p.2 := by
  unfold propsE; rw [List.find?_cons_of_pos (by simp [h])]
theorem gath_skip {n : Nat} {E : Nat → VV} {p : KV} {ps : List KV} {rest : List PO} {l : List VV} {met : List Bool} (g : Gath n E (propsE (p :: ps) rest) l met)
    (h : ∀ i, idxK p.1 = some i → i < n → ∀ (hm : i < met.length), met[i] = true) : Gath n E (propsE ps rest) l met := by
  refine ⟨g.1, g.2.1, fun i h1 h2 => ⟨(g.2.2 i h1 h2).1, fun hm => ?_⟩⟩
  obtain ⟨a, b⟩ := (g.2.2 i h1 h2).2 hm
  refine ⟨a, b.trans (propsE_cons_ne fun e => ?_)⟩
  have := h i e (by have := g.1; omega) h2
  rw [hm] at this; cases this
theorem gath_take {n : Nat} {E : Nat → VV} {p : KV} {ps : List KV} {rest : List PO} {l : List VV} {met : List Bool} (g : Gath n E (propsE (p :: ps) rest) l met)
    {i : Nat} (h : idxK p.1 = some i) (h1 : i < l.length) (h2 : i < met.length) (hm : met[i] = false) : Gath n E (propsE ps rest) (l.set i p.2) (met.set i true) := by
  refine ⟨by simp [g.1], by simp [g.2.1], fun j h3 h4 => ?_⟩
  simp only [List.length_set] at h3 h4
  rw [List.getElem_set, List.getElem_set]
  by_cases e : i = j
  · subst e
    rw [if_pos rfl, if_pos rfl]
    obtain ⟨a, b⟩ := (g.2.2 i h1 h2).2 hm
    exact ⟨fun _ => by rw [b, propsE_cons_eq h], fun h => by cases h⟩
  · rw [if_neg e, if_neg e]
    refine ⟨(g.2.2 j h3 h4).1, fun hm2 => ?_⟩
    obtain ⟨a, b⟩ := (g.2.2 j h3 h4).2 hm2
    exact ⟨a, b.trans (propsE_cons_ne fun e2 => e (by rw [h] at e2; exact Option.some.inj e2))⟩
set_option maxHeartbeats 16000000
def otE : OT := (.alt (.seq [0] (.alt (.seq [1] (.alt (.seq [2] (.alt (.seq [3] (.alt (.run [4, 5, 6, 7]) (.run [5, 4, 6, 7]))) (.alt (.seq [4] (.alt (.run [3, 5, 6, 7]) (.seq [5] (.alt (.run [3, 6, 7]) (.run [6, 3, 7]))))) (.seq [5] (.alt (.run [3, 4, 6, 7]) (.seq [4] (.alt (.run [3, 6, 7]) (.run [6, 3, 7])))))))) (.alt (.seq [4] (.alt (.seq [2] (.alt (.run [3, 5, 6, 7]) (.seq [5] (.alt (.run [3, 6, 7]) (.run [6, 3, 7]))))) (.seq [5] (.alt (.seq [2] (.alt (.run [3, 6, 7]) (.run [6, 3, 7]))) (.run [6, 2, 3, 7]))))) (.seq [5] (.alt (.seq [2] (.alt (.run [3, 4, 6, 7]) (.seq [4] (.alt (.run [3, 6, 7]) (.run [6, 3, 7]))))) (.seq [4] (.alt (.seq [2] (.alt (.run [3, 6, 7]) (.run [6, 3, 7]))) (.run [6, 2, 3, 7])))))))) (.alt (.seq [2] (.alt (.seq [1] (.alt (.seq [3] (.alt (.run [4, 5, 6, 7]) (.run [5, 4, 6, 7]))) (.alt (.seq [4] (.alt (.run [3, 5, 6, 7]) (.seq [5] (.alt (.run [3, 6, 7]) (.run [6, 3, 7]))))) (.seq [5] (.alt (.run [3, 4, 6, 7]) (.seq [4] (.alt (.run [3, 6, 7]) (.run [6, 3, 7])))))))) (.alt (.seq [3] (.alt (.seq [1] (.alt (.run [4, 5, 6, 7]) (.run [5, 4, 6, 7]))) (.alt (.seq [4] (.alt (.run [1, 5, 6, 7]) (.run [5, 1, 6, 7]))) (.seq [5] (.alt (.run [1, 4, 6, 7]) (.run [4, 1, 6, 7])))))) (.alt (.seq [4] (.alt (.seq [1] (.alt (.run [3, 5, 6, 7]) (.seq [5] (.alt (.run [3, 6, 7]) (.run [6, 3, 7]))))) (.alt (.seq [3] (.alt (.run [1, 5, 6, 7]) (.run [5, 1, 6, 7]))) (.seq [5] (.alt (.seq [1] (.alt (.run [3, 6, 7]) (.run [6, 3, 7]))) (.run [3, 1, 6, 7])))))) (.seq [5] (.alt (.seq [1] (.alt (.run [3, 4, 6, 7]) (.seq [4] (.alt (.run [3, 6, 7]) (.run [6, 3, 7]))))) (.alt (.seq [3] (.alt (.run [1, 4, 6, 7]) (.run [4, 1, 6, 7]))) (.seq [4] (.alt (.seq [1] (.alt (.run [3, 6, 7]) (.run [6, 3, 7]))) (.run [3, 1, 6, 7])))))))))) (.alt (.seq [4] (.alt (.seq [1] (.alt (.seq [2] (.alt (.run [3, 5, 6, 7]) (.seq [5] (.alt (.run [3, 6, 7]) (.run [6, 3, 7]))))) (.seq [5] (.alt (.seq [2] (.alt (.run [3, 6, 7]) (.run [6, 3, 7]))) (.run [6, 2, 3, 7]))))) (.alt (.seq [2] (.alt (.seq [1] (.alt (.run [3, 5, 6, 7]) (.seq [5] (.alt (.run [3, 6, 7]) (.run [6, 3, 7]))))) (.alt (.seq [3] (.alt (.run [1, 5, 6, 7]) (.run [5, 1, 6, 7]))) (.seq [5] (.alt (.seq [1] (.alt (.run [3, 6, 7]) (.run [6, 3, 7]))) (.run [3, 1, 6, 7])))))) (.seq [5] (.alt (.seq [1] (.alt (.seq [2] (.alt (.run [3, 6, 7]) (.run [6, 3, 7]))) (.run [6, 2, 3, 7]))) (.seq [2] (.alt (.seq [1] (.alt (.run [3, 6, 7]) (.run [6, 3, 7]))) (.run [3, 1, 6, 7])))))))) (.seq [5] (.alt (.seq [1] (.alt (.seq [2] (.alt (.run [3, 4, 6, 7]) (.seq [4] (.alt (.run [3, 6, 7]) (.run [6, 3, 7]))))) (.seq [4] (.alt (.seq [2] (.alt (.run [3, 6, 7]) (.run [6, 3, 7]))) (.run [6, 2, 3, 7]))))) (.alt (.seq [2] (.alt (.seq [1] (.alt (.run [3, 4, 6, 7]) (.seq [4] (.alt (.run [3, 6, 7]) (.run [6, 3, 7]))))) (.alt (.seq [3] (.alt (.run [1, 4, 6, 7]) (.run [4, 1, 6, 7]))) (.seq [4] (.alt (.seq [1] (.alt (.run [3, 6, 7]) (.run [6, 3, 7]))) (.run [3, 1, 6, 7])))))) (.seq [4] (.alt (.seq [1] (.alt (.seq [2] (.alt (.run [3, 6, 7]) (.run [6, 3, 7]))) (.run [6, 2, 3, 7]))) (.seq [2] (.alt (.seq [1] (.alt (.run [3, 6, 7]) (.run [6, 3, 7]))) (.run [3, 1, 6, 7])))))))))))) (.alt (.seq [2] (.alt (.seq [0] (.alt (.seq [1] (.alt (.seq [3] (.alt (.run [4, 5, 6, 7]) (.run [5, 4, 6, 7]))) (.alt (.seq [4] (.alt (.run [3, 5, 6, 7]) (.seq [5] (.alt (.run [3, 6, 7]) (.run [6, 3, 7]))))) (.seq [5] (.alt (.run [3, 4, 6, 7]) (.seq [4] (.alt (.run [3, 6, 7]) (.run [6, 3, 7])))))))) (.alt (.seq [3] (.alt (.seq [1] (.alt (.run [4, 5, 6, 7]) (.run [5, 4, 6, 7]))) (.alt (.seq [4] (.alt (.run [1, 5, 6, 7]) (.run [5, 1, 6, 7]))) (.seq [5] (.alt (.run [1, 4, 6, 7]) (.run [4, 1, 6, 7])))))) (.alt (.seq [4] (.alt (.seq [1] (.alt (.run [3, 5, 6, 7]) (.seq [5] (.alt (.run [3, 6, 7]) (.run [6, 3, 7]))))) (.alt (.seq [3] (.alt (.run [1, 5, 6, 7]) (.run [5, 1, 6, 7]))) (.seq [5] (.alt (.seq [1] (.alt (.run [3, 6, 7]) (.run [6, 3, 7]))) (.run [3, 1, 6, 7])))))) (.seq [5] (.alt (.seq [1] (.alt (.run [3, 4, 6, 7]) (.seq [4] (.alt (.run [3, 6, 7]) (.run [6, 3, 7]))))) (.alt (.seq [3] (.alt (.run [1, 4, 6, 7]) (.run [4, 1, 6, 7]))) (.seq [4] (.alt (.seq [1] (.alt (.run [3, 6, 7]) (.run [6, 3, 7]))) (.run [3, 1, 6, 7])))))))))) (.alt (.seq [3, 0] (.alt (.seq [1] (.alt (.run [4, 5, 6, 7]) (.run [5, 4, 6, 7]))) (.alt (.seq [4] (.alt (.run [1, 5, 6, 7]) (.run [5, 1, 6, 7]))) (.seq [5] (.alt (.run [1, 4, 6, 7]) (.run [4, 1, 6, 7])))))) (.alt (.seq [4] (.alt (.seq [0] (.alt (.seq [1] (.alt (.run [3, 5, 6, 7]) (.seq [5] (.alt (.run [3, 6, 7]) (.run [6, 3, 7]))))) (.alt (.seq [3] (.alt (.run [1, 5, 6, 7]) (.run [5, 1, 6, 7]))) (.seq [5] (.alt (.seq [1] (.alt (.run [3, 6, 7]) (.run [6, 3, 7]))) (.run [3, 1, 6, 7])))))) (.alt (.seq [3, 0] (.alt (.run [1, 5, 6, 7]) (.run [5, 1, 6, 7]))) (.seq [5] (.alt (.seq [0] (.alt (.seq [1] (.alt (.run [3, 6, 7]) (.run [6, 3, 7]))) (.run [3, 1, 6, 7]))) (.run [3, 0, 1, 6, 7])))))) (.seq [5] (.alt (.seq [0] (.alt (.seq [1] (.alt (.run [3, 4, 6, 7]) (.seq [4] (.alt (.run [3, 6, 7]) (.run [6, 3, 7]))))) (.alt (.seq [3] (.alt (.run [1, 4, 6, 7]) (.run [4, 1, 6, 7]))) (.seq [4] (.alt (.seq [1] (.alt (.run [3, 6, 7]) (.run [6, 3, 7]))) (.run [3, 1, 6, 7])))))) (.alt (.seq [3, 0] (.alt (.run [1, 4, 6, 7]) (.run [4, 1, 6, 7]))) (.seq [4] (.alt (.seq [0] (.alt (.seq [1] (.alt (.run [3, 6, 7]) (.run [6, 3, 7]))) (.run [3, 1, 6, 7]))) (.run [3, 0, 1, 6, 7])))))))))) (.alt (.seq [4] (.alt (.seq [0] (.alt (.seq [1] (.alt (.seq [2] (.alt (.run [3, 5, 6, 7]) (.seq [5] (.alt (.run [3, 6, 7]) (.run [6, 3, 7]))))) (.seq [5] (.alt (.seq [2] (.alt (.run [3, 6, 7]) (.run [6, 3, 7]))) (.run [6, 2, 3, 7]))))) (.alt (.seq [2] (.alt (.seq [1] (.alt (.run [3, 5, 6, 7]) (.seq [5] (.alt (.run [3, 6, 7]) (.run [6, 3, 7]))))) (.alt (.seq [3] (.alt (.run [1, 5, 6, 7]) (.run [5, 1, 6, 7]))) (.seq [5] (.alt (.seq [1] (.alt (.run [3, 6, 7]) (.run [6, 3, 7]))) (.run [3, 1, 6, 7])))))) (.seq [5] (.alt (.seq [1] (.alt (.seq [2] (.alt (.run [3, 6, 7]) (.run [6, 3, 7]))) (.run [6, 2, 3, 7]))) (.seq [2] (.alt (.seq [1] (.alt (.run [3, 6, 7]) (.run [6, 3, 7]))) (.run [3, 1, 6, 7])))))))) (.alt (.seq [2] (.alt (.seq [0] (.alt (.seq [1] (.alt (.run [3, 5, 6, 7]) (.seq [5] (.alt (.run [3, 6, 7]) (.run [6, 3, 7]))))) (.alt (.seq [3] (.alt (.run [1, 5, 6, 7]) (.run [5, 1, 6, 7]))) (.seq [5] (.alt (.seq [1] (.alt (.run [3, 6, 7]) (.run [6, 3, 7]))) (.run [3, 1, 6, 7])))))) (.alt (.seq [3, 0] (.alt (.run [1, 5, 6, 7]) (.run [5, 1, 6, 7]))) (.seq [5] (.alt (.seq [0] (.alt (.seq [1] (.alt (.run [3, 6, 7]) (.run [6, 3, 7]))) (.run [3, 1, 6, 7]))) (.run [3, 0, 1, 6, 7])))))) (.seq [5] (.alt (.seq [0] (.alt (.seq [1] (.alt (.seq [2] (.alt (.run [3, 6, 7]) (.run [6, 3, 7]))) (.run [6, 2, 3, 7]))) (.seq [2] (.alt (.seq [1] (.alt (.run [3, 6, 7]) (.run [6, 3, 7]))) (.run [3, 1, 6, 7]))))) (.seq [2] (.alt (.seq [0] (.alt (.seq [1] (.alt (.run [3, 6, 7]) (.run [6, 3, 7]))) (.run [3, 1, 6, 7]))) (.run [3, 0, 1, 6, 7])))))))) (.seq [5] (.alt (.seq [0] (.alt (.seq [1] (.alt (.seq [2] (.alt (.run [3, 4, 6, 7]) (.seq [4] (.alt (.run [3, 6, 7]) (.run [6, 3, 7]))))) (.seq [4] (.alt (.seq [2] (.alt (.run [3, 6, 7]) (.run [6, 3, 7]))) (.run [6, 2, 3, 7]))))) (.alt (.seq [2] (.alt (.seq [1] (.alt (.run [3, 4, 6, 7]) (.seq [4] (.alt (.run [3, 6, 7]) (.run [6, 3, 7]))))) (.alt (.seq [3] (.alt (.run [1, 4, 6, 7]) (.run [4, 1, 6, 7]))) (.seq [4] (.alt (.seq [1] (.alt (.run [3, 6, 7]) (.run [6, 3, 7]))) (.run [3, 1, 6, 7])))))) (.seq [4] (.alt (.seq [1] (.alt (.seq [2] (.alt (.run [3, 6, 7]) (.run [6, 3, 7]))) (.run [6, 2, 3, 7]))) (.seq [2] (.alt (.seq [1] (.alt (.run [3, 6, 7]) (.run [6, 3, 7]))) (.run [3, 1, 6, 7])))))))) (.alt (.seq [2] (.alt (.seq [0] (.alt (.seq [1] (.alt (.run [3, 4, 6, 7]) (.seq [4] (.alt (.run [3, 6, 7]) (.run [6, 3, 7]))))) (.alt (.seq [3] (.alt (.run [1, 4, 6, 7]) (.run [4, 1, 6, 7]))) (.seq [4] (.alt (.seq [1] (.alt (.run [3, 6, 7]) (.run [6, 3, 7]))) (.run [3, 1, 6, 7])))))) (.alt (.seq [3, 0] (.alt (.run [1, 4, 6, 7]) (.run [4, 1, 6, 7]))) (.seq [4] (.alt (.seq [0] (.alt (.seq [1] (.alt (.run [3, 6, 7]) (.run [6, 3, 7]))) (.run [3, 1, 6, 7]))) (.run [3, 0, 1, 6, 7])))))) (.seq [4] (.alt (.seq [0] (.alt (.seq [1] (.alt (.seq [2] (.alt (.run [3, 6, 7]) (.run [6, 3, 7]))) (.run [6, 2, 3, 7]))) (.seq [2] (.alt (.seq [1] (.alt (.run [3, 6, 7]) (.run [6, 3, 7]))) (.run [3, 1, 6, 7]))))) (.seq [2] (.alt (.seq [0] (.alt (.seq [1] (.alt (.run [3, 6, 7]) (.run [6, 3, 7]))) (.run [3, 1, 6, 7]))) (.run [3, 0, 1, 6, 7])))))))))))
abbrev zeroV : List Value := [.int .i64 0, .int .i64 0, .string ⟨#[]⟩]
def opE : Nat → AOper
  | 0 => ⟨some 22, .load1 (.tmp 5), none⟩
  | 1 => ⟨some 23, .mkSlice 24 3 32 zeroV (.tmp 22) (.tmp 22), none⟩
  | 2 => ⟨some 24, .load1 (.tmp 5), none⟩
  | 3 => ⟨some 25, .mkSlice 4 1 1 [.bool false] (.tmp 24) (.tmp 24), none⟩
  | 4 => ⟨some 7, .new 69 [.slice none 0 0], none⟩
  | 5 => ⟨some 8, .new 192 [.slice none 0 0], none⟩
  | 6 => ⟨none, .store1 (.tmp 7) (.tmp 23), none⟩
  | _ => ⟨none, .store1 (.tmp 8) (.tmp 25), none⟩
def needE : Nat → List Nat
  | 0 => [] | 1 => [0] | 2 => [] | 3 => [2] | 4 => [] | 5 => [] | 6 => [1, 4] | 7 => [3, 5] | n => [n]
structure ES (n b5 : Nat) (h4 : Heap) (d : List Nat) (fr : Nat → Value) (h : Heap) (b7 b8 ba bb : Nat) : Prop where
  x : Ext h4 h
  f5 : fr 5 = .pointer (some ⟨b5, 0, none⟩)
  v0 : d.contains 0 = true → fr 22 = .int .i64 n
  v2 : d.contains 2 = true → fr 24 = .int .i64 n
  v1 : d.contains 1 = true → fr 23 = .slice (some ⟨ba, 0, none⟩) n n ∧ h4.size ≤ ba ∧ ba < h.size ∧ Own h h4.size 24 3 (some ⟨ba, 0, none⟩) n n ((List.replicate n undefV).flatMap cellsV)
  v3 : d.contains 3 = true → fr 25 = .slice (some ⟨bb, 0, none⟩) n n ∧ h4.size ≤ bb ∧ bb < h.size ∧ Own h h4.size 4 1 (some ⟨bb, 0, none⟩) n n ((List.replicate n false).map Value.bool)
  v4 : d.contains 4 = true → fr 7 = .pointer (some ⟨b7, 0, none⟩) ∧ h4.size ≤ b7 ∧ b7 < h.size ∧ BlkW h b7 69 [if d.contains 6 = true then .slice (some ⟨ba, 0, none⟩) n n else .slice none 0 0]
  v5 : d.contains 5 = true → fr 8 = .pointer (some ⟨b8, 0, none⟩) ∧ h4.size ≤ b8 ∧ b8 < h.size ∧ BlkW h b8 192 [if d.contains 7 = true then .slice (some ⟨bb, 0, none⟩) n n else .slice none 0 0]
  n13 : d.contains 1 = true → d.contains 3 = true → ba ≠ bb
  n14 : d.contains 1 = true → d.contains 4 = true → ba ≠ b7
  n15 : d.contains 1 = true → d.contains 5 = true → ba ≠ b8
  n34 : d.contains 3 = true → d.contains 4 = true → bb ≠ b7
  n35 : d.contains 3 = true → d.contains 5 = true → bb ≠ b8
  n45 : d.contains 4 = true → d.contains 5 = true → b7 ≠ b8
  d6 : d.contains 6 = true → d.contains 1 = true ∧ d.contains 4 = true
  d7 : d.contains 7 = true → d.contains 3 = true ∧ d.contains 5 = true
theorem stepE {n b5 : Nat} {h4 : Heap} (hn : n ≤ 1000) (o5 : BlkW h4 b5 3 [.int .i64 n]) : StepOT Tryz.prog needE opE (fun d fr h => ∃ b7 b8 ba bb, ES n b5 h4 d fr h b7 b8 ba bb) := by
  have ec : Builtin.zeroCells zeroV.toArray n = ((List.replicate n undefV).flatMap cellsV).toArray := by
    rw [zeroCells_flat, List.flatMap_replicate]
  have eb : Builtin.zeroCells [Value.bool false].toArray n = ((List.replicate n false).map Value.bool).toArray := by
    rw [zeroCells_one, List.map_replicate]
  have cl : ((List.replicate n undefV).flatMap cellsV).length = n * 3 := by rw [flat_get (f := cellsV) (s := 3) (fun _ => rfl)]; simp
  rintro d j need hnot fr df h next K ⟨b7, b8, ba, bb, s⟩ k
  have hx := s.x.1
  have l5 := o5.lt
  match j, need, hnot, k with
  | 0, need, hnot, k =>
    show aop Tryz.prog (.load1 (.tmp 5)) (evf fr) h (anext Tryz.prog (some 22) ⟨fr, df⟩ next K) (ahalt K ⟨fr, df⟩)
    show match fr 5 with | .pointer (some a) => HLoad h a _ | _ => False
    rw [s.f5]
    refine blk_ld0 (o5.ext s.x) rfl (k _ _ ⟨b7, b8, ba, bb, ?_⟩)
    exact {
      x := s.x
      f5 := s.f5
      v0 := fun _ => rfl
      v2 := fun hc => s.v2 (by simpa using hc)
      v1 := fun hc => have t := s.v1 (by simpa using hc); ⟨t.1, t.2.1, by omega, id t.2.2.2⟩
      v3 := fun hc => have t := s.v3 (by simpa using hc); ⟨t.1, t.2.1, by omega, id t.2.2.2⟩
      v4 := fun hc => have t := s.v4 (by simpa using hc); ⟨t.1, t.2.1, by omega, by simpa using id t.2.2.2⟩
      v5 := fun hc => have t := s.v5 (by simpa using hc); ⟨t.1, t.2.1, by omega, by simpa using id t.2.2.2⟩
      n13 := by simpa using s.n13
      n14 := by simpa using s.n14
      n15 := by simpa using s.n15
      n34 := by simpa using s.n34
      n35 := by simpa using s.n35
      n45 := by simpa using s.n45
      d6 := by simpa using s.d6
      d7 := by simpa using s.d7 }
  | 1, need, hnot, k =>
    have hd6 : 6 ∉ d := fun hm => by have := (s.d6 (by simpa using hm)).1; rw [hnot] at this; cases this
    have e0 := s.v0 (need 0 (by simp [needE]))
    show match fr 22, fr 22 with | .int _ l, .int _ c => HBound l 9223372036854775807 fun l => HBound c 9223372036854775807 fun c => HMust (l ≤ c ∧ c * 32 ≤ 281474976710656) (HNew h (.cells (Builtin.zeroCells zeroV.toArray c) 24) fun b h' => anext Tryz.prog (some 23) ⟨fr, df⟩ next K (.value (.slice (some ⟨b, 0, none⟩) l c)) h') | _, _ => False
    rw [e0]
    refine HBound.mk n rfl (by omega) ?_
    refine HBound.mk n rfl (by omega) ?_
    refine HMust.mk ⟨Nat.le_refl _, by omega⟩ ?_
    refine new_own (e := 24) 3 n ((List.replicate n undefV).flatMap cellsV) (by rw [← ec]) cl ?_
    intro h5 bn w x5 z5 hbn
    refine k _ _ ⟨b7, b8, bn, bb, ?_⟩
    exact {
      x := s.x.trans x5
      f5 := s.f5
      v0 := fun hc => s.v0 (by simpa using hc)
      v2 := fun hc => s.v2 (by simpa using hc)
      v1 := fun _ => ⟨rfl, by omega, by omega, w.lower (by omega)⟩
      v3 := fun hc => have t := s.v3 (by simpa using hc); ⟨t.1, t.2.1, by omega, (t.2.2.2).ext x5⟩
      v4 := fun hc => have t := s.v4 (by simpa using hc); ⟨t.1, t.2.1, by omega, by simpa [hd6] using (t.2.2.2).ext x5⟩
      v5 := fun hc => have t := s.v5 (by simpa using hc); ⟨t.1, t.2.1, by omega, by simpa using (t.2.2.2).ext x5⟩
      n13 := fun _ hc => have t := s.v3 (by simpa using hc); by omega
      n14 := fun _ hc => have t := s.v4 (by simpa using hc); by omega
      n15 := fun _ hc => have t := s.v5 (by simpa using hc); by omega
      n34 := by simpa using s.n34
      n35 := by simpa using s.n35
      n45 := by simpa using s.n45
      d6 := fun hc => absurd hc (by simp [hd6])
      d7 := by simpa using s.d7 }
  | 2, need, hnot, k =>
    show aop Tryz.prog (.load1 (.tmp 5)) (evf fr) h (anext Tryz.prog (some 24) ⟨fr, df⟩ next K) (ahalt K ⟨fr, df⟩)
    show match fr 5 with | .pointer (some a) => HLoad h a _ | _ => False
    rw [s.f5]
    refine blk_ld0 (o5.ext s.x) rfl (k _ _ ⟨b7, b8, ba, bb, ?_⟩)
    exact {
      x := s.x
      f5 := s.f5
      v0 := fun hc => s.v0 (by simpa using hc)
      v2 := fun _ => rfl
      v1 := fun hc => have t := s.v1 (by simpa using hc); ⟨t.1, t.2.1, by omega, id t.2.2.2⟩
      v3 := fun hc => have t := s.v3 (by simpa using hc); ⟨t.1, t.2.1, by omega, id t.2.2.2⟩
      v4 := fun hc => have t := s.v4 (by simpa using hc); ⟨t.1, t.2.1, by omega, by simpa using id t.2.2.2⟩
      v5 := fun hc => have t := s.v5 (by simpa using hc); ⟨t.1, t.2.1, by omega, by simpa using id t.2.2.2⟩
      n13 := by simpa using s.n13
      n14 := by simpa using s.n14
      n15 := by simpa using s.n15
      n34 := by simpa using s.n34
      n35 := by simpa using s.n35
      n45 := by simpa using s.n45
      d6 := by simpa using s.d6
      d7 := by simpa using s.d7 }
  | 3, need, hnot, k =>
    have hd7 : 7 ∉ d := fun hm => by have := (s.d7 (by simpa using hm)).1; rw [hnot] at this; cases this
    have e0 := s.v2 (need 2 (by simp [needE]))
    show match fr 24, fr 24 with | .int _ l, .int _ c => HBound l 9223372036854775807 fun l => HBound c 9223372036854775807 fun c => HMust (l ≤ c ∧ c * 1 ≤ 281474976710656) (HNew h (.cells (Builtin.zeroCells [Value.bool false].toArray c) 4) fun b h' => anext Tryz.prog (some 25) ⟨fr, df⟩ next K (.value (.slice (some ⟨b, 0, none⟩) l c)) h') | _, _ => False
    rw [e0]
    refine HBound.mk n rfl (by omega) ?_
    refine HBound.mk n rfl (by omega) ?_
    refine HMust.mk ⟨Nat.le_refl _, by omega⟩ ?_
    refine new_own (e := 4) 1 n ((List.replicate n false).map Value.bool) (by rw [← eb]) (by simp) ?_
    intro h5 bn w x5 z5 hbn
    refine k _ _ ⟨b7, b8, ba, bn, ?_⟩
    exact {
      x := s.x.trans x5
      f5 := s.f5
      v0 := fun hc => s.v0 (by simpa using hc)
      v2 := fun hc => s.v2 (by simpa using hc)
      v1 := fun hc => have t := s.v1 (by simpa using hc); ⟨t.1, t.2.1, by omega, (t.2.2.2).ext x5⟩
      v3 := fun _ => ⟨rfl, by omega, by omega, w.lower (by omega)⟩
      v4 := fun hc => have t := s.v4 (by simpa using hc); ⟨t.1, t.2.1, by omega, by simpa using (t.2.2.2).ext x5⟩
      v5 := fun hc => have t := s.v5 (by simpa using hc); ⟨t.1, t.2.1, by omega, by simpa [hd7] using (t.2.2.2).ext x5⟩
      n13 := fun hc _ => have t := s.v1 (by simpa using hc); by omega
      n14 := by simpa using s.n14
      n15 := by simpa using s.n15
      n34 := fun _ hc => have t := s.v4 (by simpa using hc); by omega
      n35 := fun _ hc => have t := s.v5 (by simpa using hc); by omega
      n45 := by simpa using s.n45
      d6 := by simpa using s.d6
      d7 := fun hc => absurd hc (by simp [hd7]) }
  | 4, need, hnot, k =>
    have hd6 : 6 ∉ d := fun hm => by have := (s.d6 (by simpa using hm)).2; rw [hnot] at this; cases this
    show HNew h (.cells #[.slice none 0 0] 69) fun b h' => anext Tryz.prog (some 7) ⟨fr, df⟩ next K (.value (.pointer (some ⟨b, 0, none⟩))) h'
    refine new_var (e := 69) [.slice none 0 0] rfl ?_
    intro h5 bn w x5 z5 hbn
    refine k _ _ ⟨bn, b8, ba, bb, ?_⟩
    exact {
      x := s.x.trans x5
      f5 := s.f5
      v0 := fun hc => s.v0 (by simpa using hc)
      v2 := fun hc => s.v2 (by simpa using hc)
      v1 := fun hc => have t := s.v1 (by simpa using hc); ⟨t.1, t.2.1, by omega, (t.2.2.2).ext x5⟩
      v3 := fun hc => have t := s.v3 (by simpa using hc); ⟨t.1, t.2.1, by omega, (t.2.2.2).ext x5⟩
      v4 := fun _ => ⟨rfl, by omega, by omega, by simpa [hd6] using w⟩
      v5 := fun hc => have t := s.v5 (by simpa using hc); ⟨t.1, t.2.1, by omega, by simpa using (t.2.2.2).ext x5⟩
      n13 := by simpa using s.n13
      n14 := fun hc _ => have t := s.v1 (by simpa using hc); by omega
      n15 := by simpa using s.n15
      n34 := fun hc _ => have t := s.v3 (by simpa using hc); by omega
      n35 := by simpa using s.n35
      n45 := fun _ hc => have t := s.v5 (by simpa using hc); by omega
      d6 := fun hc => absurd hc (by simp [hd6])
      d7 := by simpa using s.d7 }
  | 5, need, hnot, k =>
    have hd7 : 7 ∉ d := fun hm => by have := (s.d7 (by simpa using hm)).2; rw [hnot] at this; cases this
    show HNew h (.cells #[.slice none 0 0] 192) fun b h' => anext Tryz.prog (some 8) ⟨fr, df⟩ next K (.value (.pointer (some ⟨b, 0, none⟩))) h'
    refine new_var (e := 192) [.slice none 0 0] rfl ?_
    intro h5 bn w x5 z5 hbn
    refine k _ _ ⟨b7, bn, ba, bb, ?_⟩
    exact {
      x := s.x.trans x5
      f5 := s.f5
      v0 := fun hc => s.v0 (by simpa using hc)
      v2 := fun hc => s.v2 (by simpa using hc)
      v1 := fun hc => have t := s.v1 (by simpa using hc); ⟨t.1, t.2.1, by omega, (t.2.2.2).ext x5⟩
      v3 := fun hc => have t := s.v3 (by simpa using hc); ⟨t.1, t.2.1, by omega, (t.2.2.2).ext x5⟩
      v4 := fun hc => have t := s.v4 (by simpa using hc); ⟨t.1, t.2.1, by omega, by simpa using (t.2.2.2).ext x5⟩
      v5 := fun _ => ⟨rfl, by omega, by omega, by simpa [hd7] using w⟩
      n13 := by simpa using s.n13
      n14 := by simpa using s.n14
      n15 := fun hc _ => have t := s.v1 (by simpa using hc); by omega
      n34 := by simpa using s.n34
      n35 := fun hc _ => have t := s.v3 (by simpa using hc); by omega
      n45 := fun hc _ => have t := s.v4 (by simpa using hc); by omega
      d6 := by simpa using s.d6
      d7 := fun hc => absurd hc (by simp [hd7]) }
  | 6, need, hnot, k =>
    have hA := need 1 (by simp [needE])
    have hC := need 4 (by simp [needE])
    have tA := s.v1 hA
    have tC := s.v4 hC
    have hj : 6 ∉ d := by simpa using hnot
    show match fr 7 with | .pointer (some p) => HStore h p [fr 23] _ | _ => False
    rw [tC.1, tA.1]
    refine store1_blk tC.2.2.2 (by simp) rfl ?_
    intro h5 f5 z5 o9
    replace o9 : BlkW h5 b7 69 [.slice (some ⟨ba, 0, none⟩) n n] := o9
    refine k _ _ ⟨b7, b8, ba, bb, ?_⟩
    exact {
      x := s.x.offNew f5 (by omega)
      f5 := s.f5
      v0 := fun hc => s.v0 (by simpa using hc)
      v2 := fun hc => s.v2 (by simpa using hc)
      v1 := fun hc => have t := s.v1 (by simpa using hc); ⟨t.1, t.2.1, by omega, t.2.2.2.off f5 (fun p ep => by cases ep; exact s.n14 (by simpa using hc) hC)⟩
      v3 := fun hc => have t := s.v3 (by simpa using hc); ⟨t.1, t.2.1, by omega, t.2.2.2.off f5 (fun p ep => by cases ep; exact s.n34 (by simpa using hc) hC)⟩
      v4 := fun hc => ⟨tC.1, tC.2.1, by omega, by simpa using o9⟩
      v5 := fun hc => have t := s.v5 (by simpa using hc); ⟨t.1, t.2.1, by omega, by simpa using t.2.2.2.offk f5 (Ne.symm (s.n45 hC (by simpa using hc)))⟩
      n13 := by simpa using s.n13
      n14 := by simpa using s.n14
      n15 := by simpa using s.n15
      n34 := by simpa using s.n34
      n35 := by simpa using s.n35
      n45 := by simpa using s.n45
      d6 := fun _ => ⟨by simpa using hA, by simpa using hC⟩
      d7 := by simpa using s.d7 }
  | 7, need, hnot, k =>
    have hA := need 3 (by simp [needE])
    have hC := need 5 (by simp [needE])
    have tA := s.v3 hA
    have tC := s.v5 hC
    have hj : 7 ∉ d := by simpa using hnot
    show match fr 8 with | .pointer (some p) => HStore h p [fr 25] _ | _ => False
    rw [tC.1, tA.1]
    refine store1_blk tC.2.2.2 (by simp) rfl ?_
    intro h5 f5 z5 o9
    replace o9 : BlkW h5 b8 192 [.slice (some ⟨bb, 0, none⟩) n n] := o9
    refine k _ _ ⟨b7, b8, ba, bb, ?_⟩
    exact {
      x := s.x.offNew f5 (by omega)
      f5 := s.f5
      v0 := fun hc => s.v0 (by simpa using hc)
      v2 := fun hc => s.v2 (by simpa using hc)
      v1 := fun hc => have t := s.v1 (by simpa using hc); ⟨t.1, t.2.1, by omega, t.2.2.2.off f5 (fun p ep => by cases ep; exact s.n15 (by simpa using hc) hC)⟩
      v3 := fun hc => have t := s.v3 (by simpa using hc); ⟨t.1, t.2.1, by omega, t.2.2.2.off f5 (fun p ep => by cases ep; exact s.n35 (by simpa using hc) hC)⟩
      v4 := fun hc => have t := s.v4 (by simpa using hc); ⟨t.1, t.2.1, by omega, by simpa using t.2.2.2.offk f5 (s.n45 (by simpa using hc) hC)⟩
      v5 := fun hc => ⟨tC.1, tC.2.1, by omega, by simpa using o9⟩
      n13 := by simpa using s.n13
      n14 := by simpa using s.n14
      n15 := by simpa using s.n15
      n34 := by simpa using s.n34
      n35 := by simpa using s.n35
      n45 := by simpa using s.n45
      d6 := by simpa using s.d6
      d7 := fun _ => ⟨by simpa using hA, by simpa using hC⟩ }
  | j + 8, need, hnot, k =>
    have := need (j + 8) (by simp [needE])
    rw [hnot] at this; cases this
set_option maxHeartbeats 16000000
theorem elements_spec {h : Heap} {bh : Nat} {H : PH} {Z : HZ} (x : HeapR h bh H Z) (g : Good H) (v : VV) (hn : i64 v.n) :
    HCalls Tryz.prog 161 #[.pointer (some ⟨bh, 0, none⟩), .agg (cellsV v).toArray] h fun e h' =>
      ∃ (a : Option Addr) (c : Nat), e = .returned (.slice a (elemsP H v).length c) ∧ Own h' h.size 24 3 a (elemsP H v).length c ((elemsP H v).flatMap cellsV) ∧ Ext h h' := by
  refine c161 (by simp) ?_
  have few := g.few
  have hbh := x.b.lt
  refine gA ?_
  refine new_var (e := 24) (cellsV v) rfl ?_
  intro h1 b3 o3 x1 z1 hb3
  refine gA ?_
  refine HCall.mk ((hlen_spec (x.ext x1) v hn few.len).mono ?_)
  rintro e h2 ⟨b, rfl, x2⟩
  have o3 := o3.ext x2
  have x02 := x1.trans x2
  refine gA ?_
  refine new_var (e := 3) [.int .i64 0] rfl ?_
  intro h3 b5 o5 x3 z3 hb5
  have l2 := o3.lt
  have o3 := o3.ext x3
  refine gA ?_
  refine store1_blk o5 (by simp) rfl ?_
  intro h4 f4 z4 o5
  have o5 : BlkW h4 b5 3 [.int .i64 (hlenP H v : Nat)] := o5
  have hx2 := x02.1
  have o3 := o3.offk f4 (by omega)
  have x04 := (x02.trans x3).offNew f4 (by omega)
  have hx4 := x04.1
  have hln : hlenP H v ≤ 1000 := by
    unfold hlenP
    cases hf : findP H v with
    | none => simp
    | some o =>
      show (if isArr o = true then o.long else 0) ≤ 1000
      have : o ∈ H.objs := by
        unfold findP at hf
        cases ha : atP H v with
        | none => rw [ha] at hf; cases hf
        | some i => rw [ha, Option.bind_some] at hf; exact List.mem_of_getElem? hf
      have := (g.keys o this).long
      split <;> omega
  have elen : (elemsP H v).length = hlenP H v := by rw [elemsP_eq]; simp
  have el0 := elemsP_eq H v
  rw [elen]
  generalize hN : hlenP H v = n at *
  by_cases h0 : n = 0
  · have q : ((n : Int) == 0) = true := by rw [h0]; rfl
    rw [el0, h0]
    refine gA ?_
    exact ⟨none, 0, rfl, Own.nil _ _ _ _, x04⟩
  · have q : ((n : Int) == 0) = false := beq_eq_false_iff_ne.2 (by omega)
    refine gB ?_
    refine Z1 ?_
    refine gB ?_
    refine cut_rule [7, 8] (fun us h' => ∃ (b7 b8 ba bb : Nat), us = [.pointer (some ⟨b7, 0, none⟩), .pointer (some ⟨b8, 0, none⟩)] ∧ BlkW h' b7 69 [.slice (some ⟨ba, 0, none⟩) n n] ∧ BlkW h' b8 192 [.slice (some ⟨bb, 0, none⟩) n n] ∧
      Own h' h4.size 24 3 (some ⟨ba, 0, none⟩) n n ((List.replicate n undefV).flatMap cellsV) ∧ Own h' h4.size 4 1 (some ⟨bb, 0, none⟩) n n ((List.replicate n false).map Value.bool) ∧
      h4.size ≤ b7 ∧ h4.size ≤ b8 ∧ h4.size ≤ ba ∧ h4.size ≤ bb ∧ [b7, b8, ba, bb].Nodup ∧ Ext h4 h') rfl ?_ ?_
    · refine tree_rule (w := [22, 23, 24, 25, 7, 8]) needE 8 (fun d fr h => ∃ b7 b8 ba bb, ES n b5 h4 d fr h b7 b8 ba bb) (stepE hln o5) otE [] (by decide) ⟨0, 0, 0, 0, ⟨Ext.refl h4, rfl, by simp, by simp, by simp, by simp, by simp, by simp, by simp, by simp, by simp, by simp, by simp, by simp, by simp, by simp⟩⟩ ?_
      rintro d' fr' h' hd ⟨b7, b8, ba, bb, s⟩
      have d1 := hd 1 (by omega)
      have d3 := hd 3 (by omega)
      have d4 := hd 4 (by omega)
      have d5 := hd 5 (by omega)
      have v1 := s.v1 d1
      have v3 := s.v3 d3
      have v4 := s.v4 d4
      have v5 := s.v5 d5
      rw [if_pos (hd 6 (by omega))] at v4
      rw [if_pos (hd 7 (by omega))] at v5
      have n13 := s.n13 d1 d3
      have n14 := s.n14 d1 d4
      have n15 := s.n15 d1 d5
      have n34 := s.n34 d3 d4
      have n35 := s.n35 d3 d5
      have n45 := s.n45 d4 d5
      refine ⟨b7, b8, ba, bb, ?_, v4.2.2.2, v5.2.2.2, v1.2.2.2, v3.2.2.2, v4.2.1, v5.2.1, v1.2.1, v3.2.1, by simp; omega, s.x⟩
      show [fr' 7, fr' 8] = _
      rw [v4.1, v5.1]
    intro u h5 v7 v8
    rintro ⟨b7, b8, ba, bb, e, o7, o8, wa, wb, l7, l8, la, lb, nd, x5⟩
    cases e
    have hx5 := x5.1
    have x05 := x04.trans x5
    have o5 := o5.ext x5
    have o3 := o3.ext x5
    refine gA ?_
    refine HCall.mk (up_spec.mono ?_)
    have lba5 : ba < h5.size := (wa.lt _ rfl).2
    have lbb5 : bb < h5.size := (wb.lt _ rfl).2
    rintro e h6 ⟨b2, b4, rfl, p2, p3, hb2, _, x6⟩
    have o5 := o5.ext x6
    have o7 := o7.ext x6
    have o8 := o8.ext x6
    have wa := wa.ext x6
    have wb := wb.ext x6
    have x06 := x05.trans x6
    have hx6 := x06.1
    refine gA ?_
    refine HRange.mk 152 #[.pointer (some ⟨b2, 0, none⟩), .pointer (some ⟨b4, 0, none⟩)] rfl (by kernel_rfl) fun rec yl => ?_
    show HCalls Tryz.prog 152 #[.func (.yield (h6.size + 1)) #[] #[], .pointer (some ⟨b2, 0, none⟩), .pointer (some ⟨b4, 0, none⟩)] ((h6.push (.deferred (some []))).push (.loop (rec .ready none))) _
    have eX : Ext h6 ((h6.push (.deferred (some []))).push (.loop (rec .ready none))) := (Ext.push h6 (.deferred (some []))).trans (Ext.push _ (.loop (rec .ready none)))
    have dX : ((h6.push (.deferred (some []))).push (.loop (rec .ready none)))[h6.size]? = some (.deferred (some [])) := by
      rw [Array.getElem?_push, if_neg (by simp), Array.getElem?_push, if_pos rfl]
    have rX : ((h6.push (.deferred (some []))).push (.loop (rec .ready none)))[h6.size + 1]? = some (.loop (rec .ready none)) := by
      rw [Array.getElem?_push, if_pos (by simp)]
    generalize ((h6.push (.deferred (some []))).push (.loop (rec .ready none))) = hX at eX dX rX ⊢
    have XX := x06.trans eX
    have p2 := p2.ext eX
    have p3 := p3.ext eX
    have hzX := eX.1
    have hlX := lt_of_at rX
    have hXX := XX.1
    have hlen := x.len
    have hlt := x.lt
    have hnd : ba ≠ bb := fun e => by subst e; simp at nd
    have hn7 : ba ≠ b7 ∧ ba ≠ b8 ∧ bb ≠ b7 ∧ bb ≠ b8 := by
      simp only [List.nodup_cons, List.mem_cons, List.not_mem_nil, or_false, not_or] at nd
      exact ⟨Ne.symm nd.1.2.1, Ne.symm nd.2.1.1, Ne.symm nd.1.2.2, Ne.symm nd.2.1.2⟩
    have lba : ba < h6.size := (wa.lt _ rfl).2
    have lbb : bb < h6.size := (wb.lt _ rfl).2
    have l5 := o5.lt
    have lb7 := o7.lt
    have lb8 := o8.lt
    have wa := wa.ext eX
    have wb := wb.ext eX
    have o5 := o5.ext eX
    have o7 := o7.ext eX
    have o8 := o8.ext eX
    have hr : ∀ h', OffS3 [ba, bb] hX h' → HeapR h' bh H Z := fun h' O => x.same fun b hb => by
      have := hlt b hb
      rw [O.2 b (by omega) (by simp; omega), XX.2 b this]
    have P2 : ∀ h', OffS3 [ba, bb] hX h' → BlkW h' b2 26 [.pointer (some ⟨bh, 0, none⟩)] := fun h' O => p2.of (O.2 b2 p2.lt (by simp; omega))
    refine (up1_spec (bh := bh) (H := H) (Z := Z) (P := fun r h' => OffS3 [ba, bb] hX h' ∧ ∃ (l : List VV) (met : List Bool), Own h' h4.size 24 3 (some ⟨ba, 0, none⟩) l.length n (l.flatMap cellsV) ∧ Own h' h4.size 4 1 (some ⟨bb, 0, none⟩) met.length n (met.map Value.bool) ∧ Gath n (fun i => elemP i (chainP H v)) (fun i => elemP i (objsX H r)) l met)
      (Fin := fun _ => False)
      g.wf hn few.len (fun r h h' p k => ⟨⟨Nat.le_trans p.1.1 k.1, fun b hb hm => by rw [k.2 b (by have := p.1.1; omega), p.1.2 b hb hm]⟩, let ⟨l, met, a, b, c⟩ := p.2; ⟨l, met, a.ext k, b.ext k, c⟩⟩) (fun r h' p => hr h' p.1) (fun r h' p => P2 h' p.1) p3 ?_ ⟨⟨Nat.le_refl _, fun _ _ _ => rfl⟩, List.replicate n undefV, List.replicate n false, by rw [List.length_replicate]; exact wa, by rw [List.length_replicate]; exact wb, gath_start n _⟩).mono ?_
    · rintro i hz r h7 ⟨O7, l, met, wa7, wb7, G7⟩
      have hi : i < H.objs.length := by omega
      have r7 : h7[h6.size + 1]? = some (.loop (rec .ready none)) := by rw [O7.2 _ hlX (by simp; omega)]; exact rX
      refine yl [.pointer (some ⟨Z.os[i].bi, 0, none⟩)] h7 _ rfl r7 ?_
      refine gA ?_
      refine ⟨r7, ?_⟩
      have f8 := off_set h7 (h6.size + 1) (.loop (rec .busy none))
      have r8 := set_same (o := .loop (rec .busy none)) r7
      have xh8 : HeapR (h7.setIfInBounds (h6.size + 1) (.loop (rec .busy none))) bh H Z := x.same fun b hb => by
        have := hlt b hb
        have := O7.1
        rw [f8.2 b (by omega) (by omega), O7.2 b (by omega) (by simp; omega), XX.2 b (by omega)]
      have wa8 := wa7.off f8 (fun p ep => by cases ep; show ba ≠ _; omega)
      have wb8 := wb7.off f8 (fun p ep => by cases ep; show bb ≠ _; omega)
      have kp : ∀ b, b < h6.size → b ≠ ba → b ≠ bb → (h7.setIfInBounds (h6.size + 1) (.loop (rec .busy none)))[b]? = hX[b]? := fun b hb h1 h2 => by
        have := O7.1
        rw [f8.2 b (by omega) (by omega), O7.2 b (by omega) (by simp; omega)]
      have o5 := o5.of (kp b5 (by omega) (by omega) (by omega))
      have o7 := o7.of (kp b7 (by omega) (by omega) (by omega))
      have o8 := o8.of (kp b8 (by omega) (by omega) (by omega))
      have hO7 := O7.1
      have hz8 := f8.1
      generalize h7.setIfInBounds (h6.size + 1) (.loop (rec .busy none)) = h8 at f8 r8 xh8 wa8 wb8 kp o5 o7 o8 hz8
      have ob := (xh8.all i hi hz).b
      have op := (xh8.all i hi hz).p
      have ho : H.objs[i] ∈ H.objs := List.getElem_mem hi
      have hpl := few.props _ ho
      have hvs := g.vals _ ho
      have G8 : Gath n (fun i => elemP i (chainP H v)) (propsE (H.objs[i].props.drop 0) (objsX H r)) l met := by
        have e : (fun j => elemP j (objsX H (i :: r))) = propsE (H.objs[i].props.drop 0) (objsX H r) := by
          funext j
          unfold objsX
          rw [List.filterMap_cons, List.getElem?_eq_getElem hi]
          try rfl
        rw [← e]; exact G7
      refine gA ?_
      refine loop_rule [35] (fun us h' => ∃ (k : Nat) (l : List VV) (met : List Bool), us = [.int .i64 k] ∧ k ≤ H.objs[i].props.length ∧ OffS3 [ba, bb] h8 h' ∧ Own h' h4.size 24 3 (some ⟨ba, 0, none⟩) l.length n (l.flatMap cellsV) ∧ Own h' h4.size 4 1 (some ⟨bb, 0, none⟩) met.length n (met.map Value.bool) ∧
        Gath n (fun i => elemP i (chainP H v)) (propsE (H.objs[i].props.drop k) (objsX H r)) l met) (fun us _ => match us with | [.int _ k] => H.objs[i].props.length - k.toNat | _ => 0) rfl ?_ ?_
      · exact ⟨0, l, met, rfl, by omega, ⟨Nat.le_refl _, fun _ _ _ => rfl⟩, wa8, wb8, G8⟩
      clear wa7 wb7 G7 wa8 wb8 G8 l met
      intro u h9 v35
      rintro ⟨k, l, met, e, hk, O9, wa9, wb9, G9⟩
      cases e
      have hO9 := O9.1
      have kp9 : ∀ b, b < h8.size → b ≠ ba → b ≠ bb → h9[b]? = h8[b]? := fun b hb h1 h2 => O9.2 b hb (by simp; omega)
      have o5 := o5.of (kp9 b5 (by omega) (by omega) (by omega))
      have o7 := o7.of (kp9 b7 (by omega) (by omega) (by omega))
      have o8 := o8.of (kp9 b8 (by omega) (by omega) (by omega))
      have xh9 : HeapR h9 bh H Z := xh8.same fun b hb => by have := hlt b hb; exact kp9 b (by omega) (by omega) (by omega)
      have op := (xh9.all i hi hz).p
      refine gA ?_
      refine HIf.mk (fun hlt2 => ?_) (fun hlt2 => ?_)
      · have hk1 : k < H.objs[i].props.length := by have := of_decide_eq_true hlt2; omega
        have hmu : H.objs[i].props.length - ((k : Int) + 1).toNat < H.objs[i].props.length - ((k : Int)).toNat := by omega
        rw [List.drop_eq_getElem_cons hk1] at G9
        have hv := hvs _ (List.getElem_mem hk1)
        generalize hp : H.objs[i].props[k] = p at G9 hv
        refine gA ?_
        refine HIdx.mk k rfl hk1 ?_
        refine sl_some op.sl hk1 fun a ea => ?_
        refine gA ?_
        refine Sl.loadK op.sl ea hk1 ?_
        rw [hp]
        refine gA ?_
        refine new_var (e := 53) zeroK rfl ?_
        intro h10 b11 o11 x10 z10 hb11
        refine gA ?_
        refine store_blk o11 (by simp [cellsK]) (by intro y hy; exact cellsKs_one [p] y (by simpa [cellsKs] using hy)) ?_
        intro h11 f11 z11 o11
        replace o11 : BlkW h11 b11 53 [.string p.1, .int .i64 p.2.k, .int .i64 p.2.n, .string p.2.s, .bool true, .bool true, .bool true] := by simpa [cellsK] using o11
        have X11 : Ext h9 h11 := x10.offNew f11 (by omega)
        have o5 := o5.ext X11
        have o7 := o7.ext X11
        have o8 := o8.ext X11
        have wa11 := wa9.ext X11
        have wb11 := wb9.ext X11
        have hX11 := X11.1
        obtain ⟨⟨⟨pl⟩⟩, pv⟩ := p
        refine gA ?_
        refine HCall.mk ((uindex_spec pl hv.2 h11).mono ?_)
        rintro e h12 ⟨rfl, rfl⟩
        have ei : idxK ⟨⟨pl⟩⟩ = idxL (ulist pl) := rfl
        have O12 : OffS3 [ba, bb] h8 h12 := ⟨by omega, fun b hb hm => by rw [X11.2 b (by omega), O9.2 b hb hm]⟩
        unfold idxR
        cases hx : idxL (ulist pl) with
        | none =>
          have q : (none : Option Nat).isSome = false := rfl
          refine gA ?_
          refine ⟨⟨k + 1, l, met, rfl, by omega, O12, wa11, wb11, gath_skip G9 fun j e => by rw [ei, hx] at e; cases e⟩, hmu⟩
        | some j =>
          have q : (some j).isSome = true := rfl
          by_cases hjn : j < n
          · have q2 : decide ((((some j).getD 0 : Nat) : Int) < (n : Int)) = true := decide_eq_true (by show ((j : Nat) : Int) < n; omega)
            have hml := G9.2.1
            have hll := G9.1
            have hjm : j < met.length := by omega
            have hjl : j < l.length := by omega
            have wb12 := wb11
            rw [hml] at wb12
            have wa12 := wa11
            rw [hll] at wa12
            refine gA ?_
            refine HIdx.mk j rfl hjn ?_
            refine sl_some wb12.sl hjn fun a ea => ?_
            refine gA ?_
            refine Sl.load wb12.sl ea (by simpa using hjm) ?_
            rw [List.getElem_map]
            cases hm : met[j] with
            | true =>
              have q3 : (!true) = false := rfl
              refine gA ?_
              refine ⟨⟨k + 1, l, met, rfl, by omega, O12, wa11, wb11, gath_skip G9 fun j' e => by rw [ei, hx] at e; cases e; intro _ _; exact hm⟩, hmu⟩
            | false =>
              have q3 : (!false) = true := rfl
              have hab := wa11.lt _ rfl
              refine gA ?_
              refine blk_ldSub o11 (by simp) ?_
              refine gA ?_
              refine HIdx.mk j rfl hjn ?_
              refine sl_some wa12.sl hjn fun pa epa => ?_
              refine gA ?_
              refine HAlt.mk ?_ ?_
              all_goals
                refine gA ?_
                refine Own.storeEl (f := cellsV) (fun _ => rfl) wa11 epa hjl pv (by simp [isOne]) fun h13 f13 z13 wa13 => ?_
                have epb : pa = ⟨ba, 0, none⟩ := (Option.some.inj epa).symm
                rw [epb] at f13
                replace f13 : Off ba h12 h13 := f13
                have o8 := o8.offk f13 (by omega)
                have wb13 := wb11.off f13 (fun p ep => by cases ep; show bb ≠ ba; omega)
                have wb14 := wb12.off f13 (fun p ep => by cases ep; show bb ≠ ba; omega)
                refine gA ?_
                refine HIdx.mk j rfl hjn ?_
                refine sl_some wb14.sl hjn fun pb epb => ?_
                refine gA ?_
                refine Own.store (v := .bool true) wb13 epb hjm rfl fun h14 f14 _ z14 wb15 => ?_
                have epc : pb = ⟨bb, 0, none⟩ := (Option.some.inj epb).symm
                rw [epc] at f14
                replace f14 : Off bb h13 h14 := f14
                have wa14 := wa13.off f14 (fun p ep => by cases ep; show ba ≠ bb; omega)
                have em : (met.map Value.bool).set j (.bool true) = (met.set j true).map Value.bool := by rw [List.map_set]
                rw [em] at wb15
                have eml : (met.set j true).length = met.length := by simp
                refine gA ?_
                refine ⟨⟨k + 1, l.set j pv, met.set j true, rfl, by omega, ⟨by have := f13.1; have := f14.1; omega, fun b hb hm => ?_⟩, wa14, by rw [eml]; exact wb15, gath_take G9 (by rw [ei, hx]) hjl hjm hm⟩, hmu⟩
                have hm' := hm
                simp only [List.mem_cons, List.not_mem_nil, or_false, not_or] at hm'
                rw [f14.2 b (by have := f13.1; omega) hm'.2, f13.2 b (by omega) hm'.1, O12.2 b hb hm]
          · have q2 : decide ((((some j).getD 0 : Nat) : Int) < (n : Int)) = false := decide_eq_false (by show ¬ ((j : Nat) : Int) < n; omega)
            refine gA ?_
            refine ⟨⟨k + 1, l, met, rfl, by omega, O12, wa11, wb11, gath_skip G9 fun j' e => by rw [ei, hx] at e; cases e; intro h1; omega⟩, hmu⟩
      · have hge := of_decide_eq_false hlt2
        obtain rfl : k = H.objs[i].props.length := by omega
        rw [List.drop_length] at G9
        refine gA ?_
        have r9 : h9[h6.size + 1]? = some (.loop (rec .busy none)) := by rw [kp9 _ (by have := lt_of_at r8; omega) (by omega) (by omega)]; exact r8
        have f10 := off_set h9 (h6.size + 1) (.loop (rec .ready none))
        refine ⟨⟨_, _, r9⟩, .inl ⟨rfl, ⟨by have := f10.1; omega, fun b hb hm => ?_⟩, l, met, wa9.off f10 (fun p ep => by cases ep; show ba ≠ _; omega), wb9.off f10 (fun p ep => by cases ep; show bb ≠ _; omega), G9⟩⟩
        by_cases hb6 : b = h6.size + 1
        · subst hb6; rw [set_same r9]; exact rX.symm
        · have hm' := hm
          simp only [List.mem_cons, List.not_mem_nil, or_false, not_or] at hm'
          rw [f10.2 b (by omega) hb6, O9.2 b (by omega) hm, f8.2 b (by omega) hb6, O7.2 b hb hm]
    rintro e h7 ⟨rfl, ⟨O7, l, met, wa7, wb7, G7⟩ | hF⟩
    · have r7 : h7[h6.size + 1]? = some (.loop (rec .ready none)) := by rw [O7.2 _ hlX (by simp; omega)]; exact rX
      have hO7 := O7.1
      refine ⟨.ready, none, r7, ⟨(fun e => LoopState.noConfusion e), ?_⟩⟩
      have f8 := off_set h7 (h6.size + 1) (.loop (rec .exhausted none))
      have hf8 := f8.1
      have d8 : (h7.setIfInBounds (h6.size + 1) (.loop (rec .exhausted none)))[h6.size]? = some (.deferred (some [])) := by rw [f8.2 _ (by omega) (by omega), O7.2 _ (by omega) (by simp; omega)]; exact dX
      have wa8 := wa7.off f8 (fun p ep => by cases ep; show ba ≠ _; omega)
      have o7 := (o7.of (O7.2 b7 (by omega) (by simp; omega))).offk f8 (by omega)
      generalize h7.setIfInBounds (h6.size + 1) (.loop (rec .exhausted none)) = h8 at f8 d8 wa8 o7 hf8
      refine gA ?_
      refine HMark.mk d8 ?_
      have f9 := off_set h8 h6.size (.deferred none)
      have wa9 := wa8.off f9 (fun p ep => by cases ep; show ba ≠ _; omega)
      have hll := G7.1
      have el : l = elemsP H v := by rw [el0]; exact gath_end G7
      rw [hll, el] at wa9
      refine ⟨_, _, rfl, wa9.lower (by omega), by have := f9.1; omega, fun b hb => ?_⟩
      rw [f9.2 b (by omega) (by omega), f8.2 b (by omega) (by omega), O7.2 b (by omega) (by simp; omega), XX.2 b hb]
    · exact hF.elim
end Go.Proofs.YtadkdfecmpjmdaaGreatDoor.Hc
namespace Go.Proofs
open Go Go.H
def Tryz.lays240_ren : Go.Shelf.Ren := ⟨fun | 240 => 175 | 276 => 188 | n => n, fun | 0 => 0 | 4 => 4 | 9 => 9 | 20 => 20 | 70 => 178 | 72 => 180 | 164 => 209 | 37 => 143 | n => n, fun | n => n⟩
theorem Tryz.lays240 : Lays.n240 Tryz.prog Tryz.lays240_ren := {
  mixed := by kernel_rfl
  f240 := Tryz.func175.trans (congrArg some (by kernel_rfl))
  f276 := Tryz.func188.trans (congrArg some (by kernel_rfl))
  t0 := Tryz.underlying0
  a0 := Tryz.isAgg0
  z0 := Tryz.sizeOf0
  v0 := Tryz.zeroValue0
  t4 := Tryz.underlying4
  a4 := Tryz.isAgg4
  z4 := Tryz.sizeOf4
  v4 := Tryz.zeroValue4
  t9 := Tryz.underlying9
  a9 := Tryz.isAgg9
  z9 := Tryz.sizeOf9
  v9 := Tryz.zeroValue9
  t20 := Tryz.underlying20
  a20 := Tryz.isAgg20
  z20 := Tryz.sizeOf20
  v20 := Tryz.zeroValue20
  t70 := Tryz.underlying178
  a70 := Tryz.isAgg178
  z70 := Tryz.sizeOf178
  v70 := Tryz.zeroValue178
  t72 := Tryz.underlying180
  a72 := Tryz.isAgg180
  z72 := Tryz.sizeOf180
  v72 := Tryz.zeroValue180
  t164 := Tryz.underlying209
  a164 := Tryz.isAgg209
  z164 := Tryz.sizeOf209
  v164 := Tryz.zeroValue209 }
theorem Tryz.Builder_X72 : Builder.X72 Tryz.prog Tryz.lays240_ren where
  sizeBuilder := by kernel_rfl
  liesBuilder := by kernel_rfl
end Go.Proofs
namespace Go.Proofs.YtadkdfecmpjmdaaGreatDoor.Hc
open Go Go.H Go.Proofs
set_option maxRecDepth 100000
theorem lies_b : liesAt Tryz.prog Tryz.prog.depth 180 (2 / Tryz.prog.cellsOf 180) 0 180 1 = true := by kernel_rfl
theorem copyCheck_fresh {h : Heap} {b e : Nat} {v : Value} (x : BlkW h b e [.pointer none, v]) (hl : liesAt Tryz.prog Tryz.prog.depth e (2 / Tryz.prog.cellsOf e) 0 180 1 = true)
    {R : Ending → Heap → Prop} (k : ∀ h', Off b h h' → h'.size = h.size → BlkW h' b e [.pointer (some ⟨b, 0, none⟩), v] → R (.returned (.tuple #[])) h') : HCalls Tryz.prog 175 #[.pointer (some ⟨b, 0, none⟩)] h R := by
  have hsh : hshape h b = some (e, 2) := by
    obtain ⟨fz, ee, ha⟩ := x
    unfold hshape; rw [ee]; rfl
  refine c175 (by simp) ?_
  refine gA ?_
  refine raw_toUnsafe (a := ⟨b, 0, none⟩) (cells := 2) (e := e) (n := 2) rfl rfl Tryz.underlying178 Tryz.underlying209 (by kernel_rfl) (by decide) hsh (show 0 < 2 by decide) ?_
  refine gA ?_
  refine raw_extern (fn := Tryz.f188) (g := Extern.AbiNoEscape.same) (v := .pointer (some ⟨b, 0, none⟩)) rfl rfl Tryz.func188 (by kernel_rfl) (by kernel_rfl) (by kernel_rfl) (by kernel_rfl) rfl ?_
  refine gA ?_
  refine raw_fromUnsafe (a := ⟨b, 0, none⟩) (cells := 2) (e := e) (n := 2) rfl rfl Tryz.underlying209 Tryz.underlying178 (by kernel_rfl) (by decide) hsh hl ?_
  refine gA ?_
  refine blk_st (o := 0) x (by simp) rfl ?_
  intro h' f z o
  refine gA ?_
  exact k h' f z o
theorem copyCheck_used {h : Heap} {b e : Nat} {v : Value} (x : BlkW h b e [.pointer (some ⟨b, 0, none⟩), v]) : HCalls Tryz.prog 175 #[.pointer (some ⟨b, 0, none⟩)] h fun e h' =>
    e = .returned (.tuple #[]) ∧ h' = h := by
  intro w hw
  subst hw
  obtain ⟨fz, e, ha⟩ := x
  refine (Any.Builder_copyCheck_used Tryz.lays240 Tryz.Builder_X72 b w ?_).mono ?_
  · rw [cell_eq]; unfold hcell; simp [e]
  · rintro e w' ⟨rfl, rfl⟩
    exact ⟨⟨rfl, rfl, rfl⟩, rfl, rfl⟩
theorem copyCheck_spec {h : Heap} {b e : Nat} {p : Option Addr} {v : Value} (x : BlkW h b e [.pointer p, v]) (hp : p = none ∨ p = some ⟨b, 0, none⟩) (hl : liesAt Tryz.prog Tryz.prog.depth e (2 / Tryz.prog.cellsOf e) 0 180 1 = true) :
    HCalls Tryz.prog 175 #[.pointer (some ⟨b, 0, none⟩)] h fun e' h' => e' = .returned (.tuple #[]) ∧ Off b h h' ∧ h'.size = h.size ∧ BlkW h' b e [.pointer (some ⟨b, 0, none⟩), v] := by
  rcases hp with rfl | rfl
  · exact copyCheck_fresh x hl fun h' f z o => ⟨rfl, f, z, o⟩
  · refine (copyCheck_used x).mono ?_
    rintro e' h' ⟨rfl, rfl⟩
    exact ⟨rfl, (Ext.refl _).off, rfl, x⟩
set_option maxHeartbeats 4000000
def GB (b : Nat) (h : Heap) (a : Option Addr) (h' : Heap) (a' : Option Addr) : Prop :=
  h.size ≤ h'.size ∧ (∀ x, x < h.size → x ≠ b → (∀ p, a = some p → p.block ≠ x) → h'[x]? = h[x]?) ∧ (∀ p', a' = some p' → (∃ p, a = some p ∧ p'.block = p.block) ∨ h.size ≤ p'.block)
theorem GB.of_off {b : Nat} {h h' : Heap} (x : Off b h h') (a : Option Addr) : GB b h a h' a := ⟨x.1, fun c hc hne _ => x.2 c hc hne, fun p ep => .inl ⟨p, ep, rfl⟩⟩
theorem GB.of_grew {b : Nat} {h h' : Heap} {a a' : Option Addr} (x : Grew h a h' a') : GB b h a h' a' := ⟨x.1, fun c hc _ hn => x.2.1 c hc hn, x.2.2⟩
theorem GB.trans {b : Nat} {h h1 h2 : Heap} {a a1 a2 : Option Addr} (x : GB b h a h1 a1) (y : GB b h1 a1 h2 a2) : GB b h a h2 a2 := by
  refine ⟨Nat.le_trans x.1 y.1, fun c hc hb hne => ?_, fun p ep => ?_⟩
  · rw [y.2.1 c (by have := x.1; omega) hb, x.2.1 c hc hb hne]
    intro p ep
    rcases x.2.2 p ep with ⟨q, eq, hq⟩ | hq
    · have := hne q eq; omega
    · omega
  · rcases y.2.2 p ep with ⟨q, eq, hq⟩ | hq
    · rcases x.2.2 q eq with ⟨r, er, hr⟩ | hr
      · exact .inl ⟨r, er, by omega⟩
      · exact .inr (by omega)
    · exact .inr (by have := x.1; omega)
theorem GB.blk {b : Nat} {h h1 : Heap} {a a1 : Option Addr} {k e : Nat} {cs : List Value} (x : GB b h a h1 a1) (o : BlkW h k e cs) (hk : k ≠ b) (hne : ∀ p, a = some p → p.block ≠ k) : BlkW h1 k e cs := o.of (x.2.1 k o.lt hk hne)
def Bld (h : Heap) (b : Nat) (a : Option Addr) (bs : List UInt8) : Prop :=
  ∃ (p : Option Addr) (c : Nat), (p = none ∨ p = some ⟨b, 0, none⟩) ∧ (bs = [] → a = none) ∧ BlkW h b 180 [.pointer p, .slice a bs.length c] ∧ Own h (b + 1) 5 1 a bs.length c (bs.map byteV)
theorem Bld.lt {h : Heap} {b : Nat} {a : Option Addr} {bs : List UInt8} (x : Bld h b a bs) : ∀ p, a = some p → b < p.block ∧ p.block < h.size := by
  obtain ⟨_, _, _, _, _, o⟩ := x
  intro p ep
  have := o.lt p ep
  omega
theorem Bld.blt {h : Heap} {b : Nat} {a : Option Addr} {bs : List UInt8} (x : Bld h b a bs) : b < h.size := by
  obtain ⟨_, _, _, _, o, _⟩ := x
  exact o.lt
theorem Bld.ext {h h' : Heap} {b : Nat} {a : Option Addr} {bs : List UInt8} (x : Bld h b a bs) (k : Ext h h') : Bld h' b a bs := by
  obtain ⟨p, c, hp, ha, o, w⟩ := x
  exact ⟨p, c, hp, ha, o.ext k, w.ext k⟩
theorem wstr_spec {h : Heap} {b : Nat} {a : Option Addr} {bs : List UInt8} (w : Bld h b a bs) (s : List UInt8) (hs : bs.length + s.length ≤ 140737488355328) :
    HCalls Tryz.prog 159 #[.pointer (some ⟨b, 0, none⟩), .string ⟨s.toArray⟩] h fun e h' => e = .returned (.tuple #[.int .i64 s.length, .nilIface]) ∧ ∃ a', Bld h' b a' (bs ++ s) ∧ GB b h a h' a' := by
  have hlt := w.lt
  have hbl := w.blt
  obtain ⟨p, c, hp, hna, o, own⟩ := w
  refine c159 (by simp) ?_
  refine gB ?_
  refine HCall.mk ((copyCheck_spec o hp lies_b).mono ?_)
  rintro e h1 ⟨rfl, f1, z1, o1⟩
  have own1 := own.off f1 (fun p ep => by have := hlt p ep; omega)
  refine gB ?_
  by_cases he : bs = [] ∧ s = []
  · obtain ⟨rfl, rfl⟩ := he
    have ha := hna rfl
    subst ha
    refine HAppend.fitsNone (Nat.zero_le _) rfl ?_
    refine gB ?_
    refine blk_st (o := 1) o1 (by simp) rfl ?_
    intro h3 f3 z3 o3
    refine gA ?_
    exact ⟨rfl, none, ⟨_, c, .inr rfl, fun _ => rfl, o3, own1.off f3 (fun p ep => by cases ep)⟩, (GB.of_off f1 none).trans (GB.of_off f3 none)⟩
  refine Own.bytes (more := s) own1 (by omega) hs ?_
  intro h2 a2 c2 own2 g2
  have o2 := g2.blk o1 (fun p ep => by have := hlt p ep; omega)
  have hlt2 := own2.lt
  refine gB ?_
  refine blk_st (o := 1) o2 (by simp) rfl ?_
  intro h3 f3 z3 o3
  refine gA ?_
  refine ⟨rfl, a2, ⟨_, c2, .inr rfl, fun e => absurd (List.append_eq_nil_iff.1 e) he, o3, own2.off f3 (fun p ep => by have := hlt2 p ep; omega)⟩, ?_⟩
  exact ((GB.of_off f1 a).trans (GB.of_grew g2)).trans (GB.of_off f3 a2)
theorem string_spec {h : Heap} {b : Nat} {a : Option Addr} {bs : List UInt8} (w : Bld h b a bs) (hs : bs.length ≤ 140737488355328) :
    HCalls Tryz.prog 162 #[.pointer (some ⟨b, 0, none⟩)] h fun e h' => e = .returned (.string ⟨bs.toArray⟩) ∧ (a = none → h' = h) ∧ ∀ p, a = some p → Off p.block h h' := by
  obtain ⟨p, c, hp, hna, o, own⟩ := w
  refine c162 (by simp) ?_
  by_cases h0 : bs = []
  · subst h0
    cases a with
    | none =>
      refine gA ?_
      refine HAlt.mk ?_ ?_
      all_goals
        refine gA ?_
        exact ⟨rfl, fun _ => rfl, fun p ep => by cases ep⟩
    | some q => have := hna rfl; cases this
  have hl0 : 0 < bs.length := List.length_pos_iff.2 h0
  have hc : bs.length ≤ c := own.2.1
  cases a with
  | none => have := own.2.2.1 rfl; omega
  | some q =>
    obtain ⟨k, spare, rfl, hk, hsp, ob⟩ := own.2.2.2 q rfl
    have hc0 : c ≠ 0 := by omega
    have hsh : hshape h k = some (5, (bs.map byteV ++ spare).length) := by
      obtain ⟨fz, ee, ha⟩ := ob
      unfold hshape; rw [ee]; simp
    have fin : ∀ R : Ending → Heap → Prop, (∀ h', Off k h h' → R (.returned (.string ⟨bs.toArray⟩)) h') → R (.returned (.string ⟨bs.toArray⟩)) (hfreeze h ⟨k, 0, none⟩ bs.length) := by
      intro R hR
      refine hR _ ?_
      unfold hfreeze
      rw [if_neg (by omega)]
      exact ⟨by simp, fun x hx hne => by rw [Array.getElem?_modify, if_neg (by simpa using fun e => hne e.symm)]⟩
    have hr : ∀ i, i < (⟨bs.toArray⟩ : ByteArray).size → hcell h ((⟨k, 0, none⟩ : Addr).add i) = some (.int .u8 ((⟨bs.toArray⟩ : ByteArray).data[i]!.toNat : Nat)) := by
      intro i hi
      have hi' : i < bs.length := hi
      rw [add_mk, Nat.zero_add, ob.blk.cell, List.getElem?_append_left (by simpa using hi'), List.getElem?_map, List.getElem?_eq_getElem hi', idx_txt bs hi']
      try rfl
    refine gA ?_
    refine HAlt.mk ?_ ?_
    all_goals
      refine gA ?_
      refine HMust.mk hc0 ?_
      refine gA ?_
      refine HUStr.mk ⟨bs.toArray⟩ (bs.map byteV ++ spare).length rfl hl0 (by show bs.length ≤ _; omega) rfl hsh (by show bs.length ≤ _; simp) (by kernel_rfl) hr ?_
      refine gA ?_
      refine fin (fun e h' => e = .returned (.string ⟨bs.toArray⟩) ∧ (some (⟨k, 0, none⟩ : Addr) = none → h' = h) ∧ ∀ p, some (⟨k, 0, none⟩ : Addr) = some p → Off p.block h h') ?_
      intro h' f
      refine ⟨rfl, (fun ep => by cases ep), fun p ep => ?_⟩
      cases ep
      exact f
theorem blen_spec {h : Heap} {b : Nat} {a : Option Addr} {bs : List UInt8} (w : Bld h b a bs) : HCalls Tryz.prog 160 #[.pointer (some ⟨b, 0, none⟩)] h fun e h' => e = .returned (.int .i64 bs.length) ∧ h' = h := by
  obtain ⟨p, c, hp, hna, o, own⟩ := w
  refine c160 (by simp) ?_
  refine gA ?_
  exact ⟨rfl, rfl⟩
theorem layF_spec {h : Heap} {b : Nat} {a : Option Addr} {bs : List UInt8} (w : Bld h b a bs) (s : List UInt8) (hs : bs.length + s.length ≤ 140737488355328) :
    HCalls Tryz.prog 158 #[.string ⟨s.toArray⟩, .pointer (some ⟨b, 0, none⟩)] h fun e h' => e = .returned (.bool (decide (((bs ++ s).length : Int) ≤ 8192))) ∧ ∃ a', Bld h' b a' (bs ++ s) ∧ GB b h a h' a' := by
  refine c158 (by simp) ?_
  refine gA ?_
  refine HCall.mk ((wstr_spec w s hs).mono ?_)
  rintro e h1 ⟨rfl, a1, w1, g1⟩
  refine gA ?_
  refine HCall.mk ((blen_spec w1).mono ?_)
  rintro e h2 ⟨rfl, rfl⟩
  refine gA ?_
  exact ⟨rfl, a1, w1, g1⟩
theorem mapO_cons {α β : Type} (f : α → Option β) (a : α) (r : List α) : mapO f (a :: r) = match f a with
    | none => none
    | some b => (mapO f r).map (b :: ·) := rfl
theorem ba_len (u : ByteArray) : u.data.toList.length = u.size := Array.length_toList
def sepA (first : Bool) (acc : List UInt8) : List UInt8 := if first = true then acc else acc ++ [0, 44]
def arrGo (tx : VV → Option ByteArray) : List VV → Bool → List UInt8 → Option (List UInt8)
  | [], _, acc => some acc
  | x :: r, first, acc =>
    if first = false ∧ 8192 < (acc ++ [0, 44]).length then none
    else if x.k = 0 ∨ x.k = 1 then arrGo tx r false (sepA first acc)
    else match tx x with
      | none => none
      | some u => if 8192 < (sepA first acc ++ u.data.toList).length then none else arrGo tx r false (sepA first acc ++ u.data.toList)
def elemT (tx : VV → Option ByteArray) (x : VV) : Option ByteArray := if x.k = 0 ∨ x.k = 1 then some noS else tx x
def sepL (us : List ByteArray) : List UInt8 := us.flatMap fun u => 0 :: 44 :: u.data.toList
theorem arrGo_rest (tx : VV → Option ByteArray) : ∀ (l : List VV) (acc : List UInt8), acc.length ≤ 8192 →
    arrGo tx l false acc = match mapO (elemT tx) l with
      | none => none
      | some us => if 8192 < (acc ++ sepL us).length then none else some (acc ++ sepL us)
  | [], acc, h => by
    show some acc = if 8192 < (acc ++ sepL []).length then none else some (acc ++ sepL [])
    simp only [sepL, List.flatMap_nil, List.append_nil]
    rw [if_neg (by omega)]
  | x :: r, acc, h => by
    unfold arrGo
    rw [mapO_cons]
    have el : ∀ us : List ByteArray, ∀ u : ByteArray, acc ++ sepL (u :: us) = (sepA false acc ++ u.data.toList) ++ sepL us := by
      intro us u; simp [sepL, sepA]
    by_cases h1 : 8192 < (acc ++ [0, 44]).length
    · rw [if_pos ⟨rfl, h1⟩]
      cases he : elemT tx x with
      | none => rfl
      | some u =>
        cases hm : mapO (elemT tx) r with
        | none => rfl
        | some us =>
          show none = if 8192 < (acc ++ sepL (u :: us)).length then none else _
          rw [if_pos]
          rw [el]
          simp only [sepA, List.length_append, List.length_cons, List.length_nil] at h1 ⊢
          simp only [Bool.false_eq_true, if_false, List.length_append, List.length_cons, List.length_nil]
          omega
    · rw [if_neg (by rintro ⟨_, h2⟩; exact h1 h2)]
      have hs : (sepA false acc).length ≤ 8192 := by simp only [sepA, Bool.false_eq_true, if_false]; omega
      by_cases hk : x.k = 0 ∨ x.k = 1
      · rw [if_pos hk, arrGo_rest tx r _ hs]
        have he : elemT tx x = some noS := by unfold elemT; rw [if_pos hk]
        rw [he]
        cases hm : mapO (elemT tx) r with
        | none => rfl
        | some us =>
          show _ = if 8192 < (acc ++ sepL (noS :: us)).length then none else some (acc ++ sepL (noS :: us))
          rw [el us noS, show sepA false acc ++ noS.data.toList = sepA false acc from List.append_nil _]
      · rw [if_neg hk]
        have he : elemT tx x = tx x := by unfold elemT; rw [if_neg hk]
        rw [he]
        cases ht : tx x with
        | none => rfl
        | some u =>
          show (if 8192 < (sepA false acc ++ u.data.toList).length then none else arrGo tx r false (sepA false acc ++ u.data.toList)) = _
          by_cases h2 : 8192 < (sepA false acc ++ u.data.toList).length
          · rw [if_pos h2]
            cases hm : mapO (elemT tx) r with
            | none => rfl
            | some us =>
              show none = if 8192 < (acc ++ sepL (u :: us)).length then none else _
              rw [if_pos]
              rw [el, List.length_append]
              omega
          · rw [if_neg h2, arrGo_rest tx r _ (by omega)]
            cases hm : mapO (elemT tx) r with
            | none => rfl
            | some us =>
              show _ = if 8192 < (acc ++ sepL (u :: us)).length then none else some (acc ++ sepL (u :: us))
              rw [el us u]
theorem join_sep : ∀ (r : List ByteArray) (u : ByteArray), (joinP (u :: r)).data.toList = u.data.toList ++ sepL r
  | [], u => by simp [joinP, sepL]
  | v :: r, u => by
    have e : joinP (u :: v :: r) = u ++ uS [44] ++ joinP (v :: r) := rfl
    rw [e]
    have a : ∀ x y : ByteArray, (x ++ y).data.toList = x.data.toList ++ y.data.toList := by intro x y; simp [ByteArray.data_append]
    rw [a, a, join_sep r v]
    show u.data.toList ++ [0, 44] ++ _ = _
    simp [sepL]
theorem arrGo_eq (tx : VV → Option ByteArray) (l : List VV) (h1 : ∀ x ∈ l, ∀ u, tx x = some u → u.size ≤ 8192) : arrGo tx l true [] = (match mapO (elemT tx) l with
      | none => none
      | some us => limP (joinP us)).map fun u : ByteArray => u.data.toList := by
  cases l with
  | nil =>
    show some [] = (limP noS).map _
    rfl
  | cons x r =>
    unfold arrGo
    rw [mapO_cons]
    rw [if_neg (by rintro ⟨h, _⟩; cases h)]
    have key : ∀ (u : ByteArray), u.data.toList.length ≤ 8192 → arrGo tx r false u.data.toList = (match (mapO (elemT tx) r).map (u :: ·) with
      | none => none
      | some us => limP (joinP us)).map fun u : ByteArray => u.data.toList := by
      intro u hu
      rw [arrGo_rest tx r _ hu]
      cases hm : mapO (elemT tx) r with
      | none => rfl
      | some us =>
        show _ = (limP (joinP (u :: us))).map _
        have el : (joinP (u :: us)).size = (joinP (u :: us)).data.toList.length := (ba_len _).symm
        unfold limP
        rw [el, join_sep]
        show (if 8192 < (u.data.toList ++ sepL us).length then none else some (u.data.toList ++ sepL us)) = _
        split
        · rfl
        · show _ = some (joinP (u :: us)).data.toList
          rw [join_sep]
    by_cases hk : x.k = 0 ∨ x.k = 1
    · rw [if_pos hk]
      have he : elemT tx x = some noS := by unfold elemT; rw [if_pos hk]
      rw [he]
      exact key noS (by show (0 : Nat) ≤ 8192; omega)
    · rw [if_neg hk]
      have he : elemT tx x = tx x := by unfold elemT; rw [if_neg hk]
      rw [he]
      cases ht : tx x with
      | none => rfl
      | some u =>
        have hu : u.data.toList.length ≤ 8192 := by have := h1 x (by simp) u ht; rw [ba_len]; exact this
        show (if 8192 < (sepA true [] ++ u.data.toList).length then none else arrGo tx r false (sepA true [] ++ u.data.toList)) = _
        have e0 : sepA true [] ++ u.data.toList = u.data.toList := rfl
        rw [e0, if_neg (by omega)]
        exact key u hu
structure ClsOk (H : PH) : Prop where
  all : ∀ o ∈ H.objs, o.cls.size ≤ 16 ∧ plainL o.cls.data.toList
theorem vok_undef : VOk undefV := ⟨by decide, by decide, by decide, by decide, fun _ => rfl, fun _ _ _ => rfl, fun h => by cases h⟩
theorem chain_mem {H : PH} {v : VV} {o : PO} (h : o ∈ chainP H v) : o ∈ H.objs := by
  unfold chainP at h
  obtain ⟨i, _, hi⟩ := List.mem_filterMap.1 h
  exact List.mem_of_getElem? hi
theorem elem_ok {H : PH} (g : Good H) (i : Nat) : ∀ l : List PO, (∀ o ∈ l, o ∈ H.objs) → VOk (elemP i l)
  | [], _ => vok_undef
  | o :: r, h => by
    unfold elemP
    split
    · rename_i p hp
      exact (g.vals o (h o (by simp)) p (List.mem_of_find?_eq_some hp)).1
    · exact elem_ok g i r fun x hx => h x (by simp [hx])
theorem elems_ok {H : PH} (g : Good H) (v : VV) : ∀ x ∈ elemsP H v, VOk x := by
  intro x hx
  rw [elemsP_eq] at hx
  obtain ⟨i, _, rfl⟩ := List.mem_map.1 hx
  exact elem_ok g i _ fun o ho => chain_mem ho
theorem seek_ok {H : PH} (g : Good H) (key : ByteArray) : ∀ l : List PO, (∀ o ∈ l, o ∈ H.objs) → ∀ x, seekL key l = some x → VOk x
  | [], _, x, hx => by cases hx
  | o :: r, h, x, hx => by
    unfold seekL at hx
    cases ho : ownP o key with
    | some y =>
      rw [ho] at hx
      cases hx
      unfold ownP at ho
      split at ho
      · cases ho
        have := (g.keys o (h o (by simp))).long
        exact ⟨⟨by show (0 : Int) ≤ 3; decide, by show (3 : Int) ≤ 7; decide⟩, ⟨by show (-9007199254740991 : Int) ≤ (o.long : Int); omega, by show (o.long : Int) ≤ 9007199254740991; omega⟩, by show (0 : Nat) ≤ 8192; omega, rfl, fun _ => rfl, fun _ h3 => absurd rfl h3, fun h => by cases h⟩
      · obtain ⟨i, hi, _, _, e⟩ := lookP_some ho
        rw [← e]
        exact (g.vals o (h o (by simp)) _ (List.getElem_mem hi)).1
    | none =>
      rw [ho] at hx
      exact seek_ok g key r (fun y hy => h y (by simp [hy])) x hx
theorem get_ok {H : PH} (g : Good H) (v : VV) (key : ByteArray) : VOk (getP H v key) := by
  unfold getP
  cases hs : seekL key (chainP H v) with
  | none => exact vok_undef
  | some x => exact seek_ok g key _ (fun o ho => chain_mem ho) x hs
theorem cls_ok {H : PH} (c : ClsOk H) (v : VV) : (clsP H v).size ≤ 16 ∧ plainL (clsP H v).data.toList := by
  unfold clsP
  cases hf : findP H v with
  | none => exact ⟨by show (0 : Nat) ≤ 16; omega, fun c hc => by cases hc⟩
  | some o =>
    have : o ∈ H.objs := by
      unfold findP at hf
      cases ha : atP H v with
      | none => rw [ha] at hf; cases hf
      | some i => rw [ha, Option.bind_some] at hf; exact List.mem_of_getElem? hf
    exact c.all o this
theorem uS_size (l : List UInt8) : (uS l).size = 2 * l.length := by
  show (unitsL l).toArray.size = _
  rw [List.size_toArray, unitsL_len]
theorem app_size (a b : ByteArray) : (a ++ b).size = a.size + b.size := ByteArray.size_append
theorem join_even : ∀ us : List ByteArray, (∀ u ∈ us, u.size % 2 = 0) → (joinP us).size % 2 = 0
  | [], _ => rfl
  | [u], h => h u (by simp)
  | u :: v :: r, h => by
    show (u ++ uS [44] ++ joinP (v :: r)).size % 2 = 0
    have h1 := h u (by simp)
    have h2 := join_even (v :: r) fun x hx => h x (by simp at hx ⊢; right; exact hx)
    rw [app_size, app_size, uS_size]
    simp only [List.length_cons, List.length_nil]
    omega
theorem mapO_mem {α β : Type} {f : α → Option β} : ∀ {l : List α} {us : List β}, mapO f l = some us → ∀ u ∈ us, ∃ x ∈ l, f x = some u
  | [], us, h, u, hu => by cases h; cases hu
  | x :: r, us, h, u, hu => by
    unfold mapO at h
    cases hx : f x with
    | none => rw [hx] at h; cases h
    | some b =>
      rw [hx] at h
      cases hr : mapO f r with
      | none => rw [hr] at h; cases h
      | some bs =>
        rw [hr] at h
        cases h
        rcases List.mem_cons.1 hu with rfl | hu
        · exact ⟨x, by simp, hx⟩
        · obtain ⟨y, hy, e⟩ := mapO_mem hr u hu
          exact ⟨y, by simp [hy], e⟩
theorem lim_some {u w : ByteArray} (h : limP u = some w) : w = u ∧ u.size ≤ 8192 := by
  unfold limP at h
  split at h
  · cases h
  · cases h; exact ⟨rfl, by omega⟩
def TxtOk (u : ByteArray) : Prop := u.size ≤ 8192 ∧ u.size % 2 = 0
theorem uS_ok {l : List UInt8} (h : l.length ≤ 4096) : TxtOk (uS l) := by unfold TxtOk; rw [uS_size]; omega
def arrT (H : PH) (f : Nat) (v : VV) : Option ByteArray := match mapO (elemT (textP H f)) (elemsP H v) with
  | none => none
  | some us => limP (joinP us)
def nameT (H : PH) (f : Nat) (v : VV) : Option ByteArray := if (getP H v (uS wName)).k = 0 then some (uS wError) else textP H f (getP H v (uS wName))
def msgT (H : PH) (f : Nat) (v : VV) : Option ByteArray := if (getP H v (uS wMessage)).k = 0 then some noS else textP H f (getP H v (uS wMessage))
def failT (H : PH) (f : Nat) (v : VV) : Option ByteArray := match nameT H f v with
  | none => none
  | some a => match msgT H f v with
    | none => none
    | some b => if a = noS then some b else if b = noS then some a else limP (a ++ uS wColon ++ b)
def objT (H : PH) (f : Nat) (v : VV) : Option ByteArray :=
  if clsP H v = funcS then some (uS wFunction) else if clsP H v = arrS then arrT H f v else if clsP H v = errS then failT H f v else some (uS (wObj ++ (clsP H v).data.toList ++ [93]))
theorem textP_ref {H : PH} {f : Nat} {v : VV} (hk : v.k = 7) : textP H (f + 1) v = objT H f v := by
  unfold textP
  rw [if_neg (by omega), if_neg (by omega), if_neg (by omega), if_neg (by omega), if_pos hk]
  try rfl
theorem textP_deep {H : PH} {v : VV} (hk : v.k = 7) : textP H 0 v = none := by
  unfold textP
  rw [if_neg (by omega), if_neg (by omega), if_neg (by omega), if_neg (by omega), if_pos hk]
theorem textP_null {H : PH} {f : Nat} {v : VV} (hk : v.k = 1) : textP H f v = some (uS wNull) := by
  unfold textP
  rw [if_pos hk]
theorem textP_bool {H : PH} {f : Nat} {v : VV} (hk : v.k = 2) : textP H f v = some (if v.n = 0 then uS wFalse else uS wTrue) := by
  unfold textP
  rw [if_neg (by omega), if_pos hk]
theorem textP_num {H : PH} {f : Nat} {v : VV} (hk : v.k = 3) : textP H f v = some (textN v.n) := by
  unfold textP
  rw [if_neg (by omega), if_neg (by omega), if_pos hk]
theorem textP_str {H : PH} {f : Nat} {v : VV} (hk : v.k = 4) : textP H f v = limP v.s := by
  unfold textP
  rw [if_neg (by omega), if_neg (by omega), if_neg (by omega), if_pos hk]
theorem textP_und {H : PH} {f : Nat} {v : VV} (h1 : v.k ≠ 1) (h2 : v.k ≠ 2) (h3 : v.k ≠ 3) (h4 : v.k ≠ 4) (h7 : v.k ≠ 7) : textP H f v = some (uS wUndef) := by
  unfold textP
  rw [if_neg h1, if_neg h2, if_neg h3, if_neg h4, if_neg h7]
theorem text_ok {H : PH} (g : Good H) (c : ClsOk H) : ∀ (f : Nat) (v : VV), VOk v → ∀ u, textP H f v = some u → TxtOk u := by
  intro f
  induction f with
  | zero =>
    intro v hv u hu
    by_cases h1 : v.k = 1
    · rw [textP_null h1] at hu; cases hu; exact uS_ok (by decide)
    by_cases h2 : v.k = 2
    · rw [textP_bool h2] at hu; cases hu; split <;> exact uS_ok (by decide)
    by_cases h3 : v.k = 3
    · rw [textP_num h3] at hu; cases hu
      have hn := hv.n
      have := itoa_len v.n (by omega) (by omega)
      exact uS_ok (by omega)
    by_cases h4 : v.k = 4
    · rw [textP_str h4] at hu
      obtain ⟨rfl, h2⟩ := lim_some hu
      exact ⟨h2, hv.even⟩
    by_cases h7 : v.k = 7
    · rw [textP_deep h7] at hu; cases hu
    · rw [textP_und h1 h2 h3 h4 h7] at hu; cases hu; exact uS_ok (by decide)
  | succ f ih =>
    intro v hv u hu
    by_cases h1 : v.k = 1
    · rw [textP_null h1] at hu; cases hu; exact uS_ok (by decide)
    by_cases h2 : v.k = 2
    · rw [textP_bool h2] at hu; cases hu; split <;> exact uS_ok (by decide)
    by_cases h3 : v.k = 3
    · rw [textP_num h3] at hu; cases hu
      have hn := hv.n
      have := itoa_len v.n (by omega) (by omega)
      exact uS_ok (by omega)
    by_cases h4 : v.k = 4
    · rw [textP_str h4] at hu
      obtain ⟨rfl, h2⟩ := lim_some hu
      exact ⟨h2, hv.even⟩
    by_cases h7 : v.k = 7
    · rw [textP_ref h7] at hu
      unfold objT at hu
      by_cases c1 : clsP H v = funcS
      · rw [if_pos c1] at hu; cases hu; exact uS_ok (by decide)
      rw [if_neg c1] at hu
      by_cases c2 : clsP H v = arrS
      · rw [if_pos c2] at hu
        unfold arrT at hu
        cases hm : mapO (elemT (textP H f)) (elemsP H v) with
        | none => rw [hm] at hu; cases hu
        | some us =>
          rw [hm] at hu
          obtain ⟨rfl, h2⟩ := lim_some hu
          refine ⟨h2, join_even us fun w hw => ?_⟩
          obtain ⟨x, hx, e⟩ := mapO_mem hm w hw
          unfold elemT at e
          split at e
          · cases e; rfl
          · exact (ih x (elems_ok g v x hx) w e).2
      rw [if_neg c2] at hu
      by_cases c3 : clsP H v = errS
      · rw [if_pos c3] at hu
        have ha : ∀ a, nameT H f v = some a → TxtOk a := by
          intro a e
          unfold nameT at e
          split at e
          · cases e; exact uS_ok (by decide)
          · exact ih _ (get_ok g v _) a e
        have hb : ∀ a, msgT H f v = some a → TxtOk a := by
          intro a e
          unfold msgT at e
          split at e
          · cases e; exact ⟨by show (0 : Nat) ≤ 8192; omega, rfl⟩
          · exact ih _ (get_ok g v _) a e
        unfold failT at hu
        cases hA : nameT H f v with
        | none => rw [hA] at hu; cases hu
        | some a =>
          cases hB : msgT H f v with
          | none => rw [hA, hB] at hu; cases hu
          | some b =>
            have oa := ha a hA
            have ob := hb b hB
            rw [hA, hB] at hu
            replace hu : (if a = noS then some b else if b = noS then some a else limP (a ++ uS wColon ++ b)) = some u := hu
            split at hu
            · cases hu; exact ob
            split at hu
            · cases hu; exact oa
            · obtain ⟨rfl, h2⟩ := lim_some hu
              refine ⟨h2, ?_⟩
              rw [app_size, app_size, uS_size]
              have := oa.2
              have := ob.2
              omega
      rw [if_neg c3] at hu
      cases hu
      have := (cls_ok c v).1
      refine uS_ok ?_
      have e : (clsP H v).data.toList.length = (clsP H v).size := ba_len _
      simp only [List.length_append, List.length_cons, List.length_nil, e]
      omega
    · rw [textP_und h1 h2 h3 h4 h7] at hu; cases hu; exact uS_ok (by decide)
def tyP (H : PH) (v : VV) : List UInt8 :=
  if v.k = 2 then [98, 111, 111, 108, 101, 97, 110]
  else if v.k = 3 then [110, 117, 109, 98, 101, 114]
  else if v.k = 4 then [115, 116, 114, 105, 110, 103]
  else if v.k = 1 ∨ v.k = 7 then (if clsP H v = funcS then wFunction else [111, 98, 106, 101, 99, 116])
  else wUndef
def truthP (v : VV) : Bool := decide (v.k = 7 ∨ v.n ≠ 0 ∨ v.s ≠ noS)
abbrev boolV (b : Bool) : VV := ⟨2, if b = true then 1 else 0, noS⟩
abbrev numV (n : Int) : VV := ⟨3, n, noS⟩
abbrev strV (u : ByteArray) : VV := ⟨4, 0, u⟩
abbrev OpR := VV × Int
abbrev badR : OpR := (undefV, 100)
def resR (r : OpR) : Value := .tuple #[.agg (cellsV r.1).toArray, .int .i64 r.2]
def textR : Option ByteArray → Value
  | none => .tuple #[.string noS, .int .i64 100]
  | some u => .tuple #[.string u, .int .i64 0]
def foundR : Option Int → OpR
  | none => badR
  | some n => (numV n, 0)
abbrev oAdd : ByteArray := ⟨#[43]⟩
abbrev oSub : ByteArray := ⟨#[45]⟩
abbrev oMul : ByteArray := ⟨#[42]⟩
abbrev oDiv : ByteArray := ⟨#[47]⟩
abbrev oMod : ByteArray := ⟨#[37]⟩
abbrev oNot : ByteArray := ⟨#[33]⟩
abbrev oTypeof : ByteArray := ⟨#[116, 121, 112, 101, 111, 102]⟩
abbrev oVoid : ByteArray := ⟨#[118, 111, 105, 100]⟩
abbrev oLt : ByteArray := ⟨#[60]⟩
abbrev oGt : ByteArray := ⟨#[62]⟩
abbrev oLe : ByteArray := ⟨#[60, 61]⟩
abbrev oGe : ByteArray := ⟨#[62, 61]⟩
abbrev oEq : ByteArray := ⟨#[61, 61]⟩
abbrev oNe : ByteArray := ⟨#[33, 61]⟩
abbrev oSame : ByteArray := ⟨#[61, 61, 61]⟩
abbrev oDiff : ByteArray := ⟨#[33, 61, 61]⟩
def unaryP (H : PH) (op : ByteArray) (v : VV) : OpR :=
  if op = oAdd then foundR (numP H v)
  else if op = oSub then (match numP H v with
    | none => badR
    | some n => foundR (nSub 0 n))
  else if op = oNot then (boolV (!truthP v), 0)
  else if op = oTypeof then (strV (uS (tyP H v)), 0)
  else if op = oVoid then (undefV, 0)
  else (undefV, 1)
def joinR (H : PH) (a b : VV) : OpR := match textT H a with
  | none => badR
  | some s => match textT H b with
    | none => badR
    | some t => match limP (s ++ t) with
      | none => badR
      | some u => (strV u, 0)
def numsP (H : PH) (a b : VV) : Option (Int × Int) := match numP H a with
  | none => none
  | some n => (numP H b).map fun m => (n, m)
def cmpI (n m : Int) : Int := if n < m then -1 else if n = m then 0 else 1
def cmpS (a b : ByteArray) : Int := if strLt a b = true then -1 else if a = b then 0 else 1
def orderP (H : PH) (a b : VV) : Option Int := match plainP H a with
  | none => none
  | some x => match plainP H b with
    | none => none
    | some y => if x.k = 4 ∧ y.k = 4 then some (cmpS x.s y.s) else (numsP H x y).map fun p => cmpI p.1 p.2
def cmpR (t : Int → Bool) : Option Int → OpR
  | none => badR
  | some c => (boolV (t c), 0)
def looseR (t : Bool → Bool) : Option Bool → OpR
  | none => badR
  | some c => (boolV (t c), 0)
def longV (v : VV) : Bool := decide (v.k = 4 ∨ v.k = 7)
def reckR (f : Int → Int → Option Int) : Option (Int × Int) → OpR
  | none => badR
  | some p => foundR (f p.1 p.2)
def binaryP (H : PH) (op : ByteArray) (a b : VV) : OpR :=
  if op = oAdd then (if longV a = true ∨ longV b = true then joinR H a b else reckR nAdd (numsP H a b))
  else if op = oSub then reckR nSub (numsP H a b)
  else if op = oMul then reckR nMul (numsP H a b)
  else if op = oDiv then reckR nDiv (numsP H a b)
  else if op = oMod then reckR nMod (numsP H a b)
  else if op = oLt then cmpR (fun c => decide (c < 0)) (orderP H a b)
  else if op = oGt then cmpR (fun c => decide (0 < c)) (orderP H a b)
  else if op = oLe then cmpR (fun c => decide (c ≤ 0)) (orderP H a b)
  else if op = oGe then cmpR (fun c => decide (0 ≤ c)) (orderP H a b)
  else if op = oEq then looseR (fun c => c) (looseP H a b)
  else if op = oNe then looseR (fun c => !c) (looseP H a b)
  else if op = oSame then (boolV (vEq a b), 0)
  else if op = oDiff then (boolV (!vEq a b), 0)
  else (undefV, 1)
set_option maxHeartbeats 8000000
theorem plainF_spec (l : List UInt8) (hp : plainL l) (hl : l.length ≤ 1048576) (h : Heap) : HCalls Tryz.prog 63 #[.string ⟨l.toArray⟩] h fun e h' => e = .returned (.string (uS l)) ∧ Ext h h' := by
  refine c63 (by simp) ?_
  refine gA ?_
  refine HCall.mk ((of_spec l hp hl h).mono ?_)
  rintro e h1 ⟨rfl, x1⟩
  refine gA ?_
  exact ⟨rfl, x1⟩
theorem limited_spec (u : ByteArray) (he : u.size % 2 = 0) (hl : u.size ≤ 2097152) (h : Heap) : HCalls Tryz.prog 90 #[.string u, .int .i64 0] h fun e h' => e = .returned (textR (limP u)) ∧ h' = h := by
  refine c90 (by simp) ?_
  refine gA ?_
  have e0 : u = ⟨u.data.toList.toArray⟩ := by simp
  have e1 : u.data.toList.length = u.size := ba_len u
  refine HCall.to #[.string ⟨u.data.toList.toArray⟩] (by rw [← e0]; rfl) ?_
  refine (ulen_spec u.data.toList (by omega) h).mono ?_
  rintro e h1 ⟨rfl, rfl⟩
  rw [e1]
  by_cases hb : 8192 < u.size
  · have q : decide (((u.size / 2 : Nat) : Int) > 4096) = true := decide_eq_true (by omega)
    have el : limP u = none := by unfold limP; rw [if_pos hb]
    rw [el]
    refine gA ?_
    exact ⟨rfl, rfl⟩
  · have q : decide (((u.size / 2 : Nat) : Int) > 4096) = false := decide_eq_false (by omega)
    have el : limP u = some u := by unfold limP; rw [if_neg hb]
    rw [el]
    refine gA ?_
    exact ⟨rfl, rfl⟩
theorem limitedE_spec (u : ByteArray) (n : Int) (hn : n ≠ 0) (h : Heap) : HCalls Tryz.prog 90 #[.string u, .int .i64 n] h fun e h' => e = .returned (.tuple #[.string noS, .int .i64 n]) ∧ h' = h := by
  refine c90 (by simp) ?_
  have q : (n == 0) = false := beq_eq_false_iff_ne.2 hn
  have q2 : (n != 0) = true := by simp [hn]
  refine gA ?_
  exact ⟨rfl, rfl⟩
theorem fbool_spec (b : Bool) (h : Heap) : HCalls Tryz.prog 97 #[.bool b] h fun e h' => e = .returned (.string (if b = true then ⟨#[116, 114, 117, 101]⟩ else ⟨#[102, 97, 108, 115, 101]⟩)) ∧ h' = h := by
  refine c97 (by simp) ?_
  refine gA ?_
  refine HCall.mk ?_
  refine c139 (by simp) ?_
  cases b
  · refine gA ?_
    exact ⟨rfl, rfl⟩
  · refine gA ?_
    exact ⟨rfl, rfl⟩
abbrev txC (bh f : Nat) : List Value := [.pointer (some ⟨bh, 0, none⟩), .int .i64 (20 - (f : Int))]
structure TxAt (h0 : Heap) (bt bh : Nat) (H : PH) (Z : HZ) (h : Heap) : Prop where
  x : Ext h0 h
  hb : h0.size ≤ bt
  r : HeapR h bh H Z
  nb : bt ∉ Z.bs bh
theorem TxAt.ext {h0 : Heap} {bt bh : Nat} {H : PH} {Z : HZ} {h h' : Heap} (s : TxAt h0 bt bh H Z h) (x : Ext h h') : TxAt h0 bt bh H Z h' := ⟨s.x.trans x, s.hb, s.r.ext x, s.nb⟩
theorem TxAt.off {h0 : Heap} {bt bh : Nat} {H : PH} {Z : HZ} {h h' : Heap} (s : TxAt h0 bt bh H Z h) (f : Off bt h h') : TxAt h0 bt bh H Z h' :=
  ⟨s.x.offNew f s.hb, s.hb, s.r.same fun b hb => f.2 b (s.r.lt b hb) (fun e => s.nb (e ▸ hb)), s.nb⟩
def TextAt (h0 : Heap) (bt bh : Nat) (H : PH) (Z : HZ) (f : Nat) : Prop := ∀ (v : VV) (h : Heap), VOk v → TxAt h0 bt bh H Z h → BlkW h bt 87 (txC bh f) →
  HCalls Tryz.prog 54 #[.pointer (some ⟨bt, 0, none⟩), .agg (cellsV v).toArray] h fun e h' => e = .returned (textR (textP H f v)) ∧ Off bt h h' ∧ BlkW h' bt 87 (txC bh f)
set_option maxHeartbeats 16000000
theorem elsV (h : Heap) : ∀ l : List VV, Els (fun _ (p : VV) cs => cs = cellsV p) h l (l.flatMap cellsV)
  | [] => rfl
  | p :: r => ⟨cellsV p, r.flatMap cellsV, rfl, rfl, elsV h r⟩
theorem Sl.loadV {h : Heap} {a : Option Addr} {c : Nat} {l : List VV} {p : Addr} {i : Nat} {K : Value → Prop} (x : Sl h 3 a l.length c (l.flatMap cellsV)) (ep : a = some p) (hi : i < l.length)
    (k : K (.agg (cellsV l[i]).toArray)) : HLoadN h (p.add (i * 3)) 3 K :=
  Sl.loadEl (R := fun _ (p : VV) cs => cs = cellsV p) (by rintro d cs rfl; rfl) x (elsV h l) ep hi (by rintro cs rfl; exact k)
theorem Bld.off {h h' : Heap} {b k : Nat} {a : Option Addr} {bs : List UInt8} (x : Bld h b a bs) (f : Off k h h') (h1 : b ≠ k) (h2 : ∀ p, a = some p → p.block ≠ k) : Bld h' b a bs := by
  obtain ⟨p, c, hp, ha, o, w⟩ := x
  exact ⟨p, c, hp, ha, o.offk f h1, w.off f h2⟩
def Fr2 (bt b6 : Nat) (hs h : Heap) (a : Option Addr) : Prop := hs.size ≤ h.size ∧ (∀ x, x < hs.size → x ≠ bt → x ≠ b6 → h[x]? = hs[x]?) ∧ ∀ p, a = some p → hs.size ≤ p.block
theorem Fr2.off {bt b6 : Nat} {hs h h' : Heap} {a : Option Addr} (x : Fr2 bt b6 hs h a) (f : Off bt h h') : Fr2 bt b6 hs h' a :=
  ⟨Nat.le_trans x.1 f.1, fun y hy h1 h2 => by rw [f.2 y (by have := x.1; omega) h1, x.2.1 y hy h1 h2], x.2.2⟩
theorem Fr2.ext {bt b6 : Nat} {hs h h' : Heap} {a : Option Addr} (x : Fr2 bt b6 hs h a) (f : Ext h h') : Fr2 bt b6 hs h' a :=
  ⟨Nat.le_trans x.1 f.1, fun y hy h1 h2 => by rw [f.2 y (by have := x.1; omega), x.2.1 y hy h1 h2], x.2.2⟩
theorem Fr2.gb {bt b6 : Nat} {hs h h' : Heap} {a a' : Option Addr} (x : Fr2 bt b6 hs h a) (f : GB b6 h a h' a') : Fr2 bt b6 hs h' a' :=
  ⟨Nat.le_trans x.1 f.1, fun y hy h1 h2 => by
    rw [f.2.1 y (by have := x.1; omega) h2 (fun p ep => by have := x.2.2 p ep; omega), x.2.1 y hy h1 h2], fun p ep => by
    rcases f.2.2 p ep with ⟨q, eq, e⟩ | h1
    · have := x.2.2 q eq; omega
    · have := x.1; omega⟩
theorem tarray_spec {h0 : Heap} {bt bh : Nat} {H : PH} {Z : HZ} {f : Nat} (g : Good H) (cl : ClsOk H) (ih : TextAt h0 bt bh H Z f) (v : VV) (h : Heap) (hv : VOk v) (t : TxAt h0 bt bh H Z h) (ob : BlkW h bt 87 (txC bh f)) :
    HCalls Tryz.prog 141 #[.pointer (some ⟨bt, 0, none⟩), .agg (cellsV v).toArray] h fun e h' => e = .returned (textR (arrT H f v)) ∧ Off bt h h' ∧ BlkW h' bt 87 (txC bh f) := by
  refine c141 (by simp) ?_
  have hbt := ob.lt
  refine gA ?_
  refine new_var (e := 24) (cellsV v) rfl ?_
  intro h1 b3 o3 x1 z1 hb3
  refine gA ?_
  refine new_var (e := 180) [.pointer none, .slice none 0 0] rfl ?_
  intro h2 b6 o6 x2 z2 hb6
  have o3 := o3.ext x2
  have x02 := x1.trans x2
  have ob2 := ob.ext x02
  have t2 := t.ext x02
  have lb3 := o3.lt
  have hx1 := x1.1
  refine gA ?_
  refine HCall.mk ((elements_spec t2.r g v hv.i).mono ?_)
  rintro e h3 ⟨ea, ec, rfl, we, x3⟩
  have ob3 := ob2.ext x3
  have o6 := o6.ext x3
  have t3 := t2.ext x3
  have x03 := x02.trans x3
  have hx3 := x3.1
  have hx2 := x2.1
  have eqa := arrGo_eq (textP H f) (elemsP H v) (fun x hx u e => (text_ok g cl f x (elems_ok g v x hx) u e).1)
  have hok := elems_ok g v
  have eT : arrT H f v = (arrGo (textP H f) (elemsP H v) true []).map fun bs => ⟨bs.toArray⟩ := by
    rw [eqa]
    unfold arrT
    cases mapO (elemT (textP H f)) (elemsP H v) with
    | none => rfl
    | some us => show limP (joinP us) = ((limP (joinP us)).map _).map _; cases limP (joinP us) <;> simp
  rw [eT]
  have hll : (elemsP H v).length ≤ 1000 := by
    rw [elemsP_eq, List.length_map, List.length_range]
    unfold hlenP
    cases hf : findP H v with
    | none => simp
    | some o =>
      show (if isArr o = true then o.long else 0) ≤ 1000
      have : o ∈ H.objs := by
        unfold findP at hf
        cases ha : atP H v with
        | none => rw [ha] at hf; cases hf
        | some i => rw [ha, Option.bind_some] at hf; exact List.mem_of_getElem? hf
      have := (g.keys o this).long
      split <;> omega
  generalize elemsP H v = l at *
  have wb0 : Bld h3 b6 none [] := ⟨none, 0, .inl rfl, fun _ => rfl, o6, Own.nil _ _ _ _⟩
  have lb6 := o6.lt
  have hne : bt ≠ b6 := by omega
  have fin : ∀ (h' : Heap) (a' : Option Addr), Fr2 bt b6 h3 h' a' → Off bt h h' := fun h' a' F => ⟨by have := F.1; have := x03.1; omega, fun y hy hn => by
    rw [F.2.1 y (by have := x03.1; omega) hn (by omega), x03.2 y hy]⟩
  have tOf : ∀ (h' : Heap) (a' : Option Addr), Fr2 bt b6 h3 h' a' → TxAt h0 bt bh H Z h' := fun h' a' F => by
    have hz := t.hb
    have h03 := t3.x
    refine ⟨⟨by have := F.1; have := h03.1; omega, fun y hy => by rw [F.2.1 y (by have := h03.1; omega) (by omega) (by omega), h03.2 y hy]⟩, t.hb, t3.r.same fun b hb => ?_, t.nb⟩
    have h1 := t3.r.lt b hb
    have h2 := t.r.lt b hb
    exact F.2.1 b h1 (fun e => t.nb (e ▸ hb)) (by omega)
  refine gA ?_
  refine loop_rule [20] (fun us h' => ∃ (k : Nat) (a : Option Addr) (bs : List UInt8), us = [.int .i64 k] ∧ k ≤ l.length ∧ Bld h' b6 a bs ∧ bs.length ≤ 8194 ∧ Fr2 bt b6 h3 h' a ∧ BlkW h' bt 87 (txC bh f) ∧
    arrGo (textP H f) l true [] = arrGo (textP H f) (l.drop k) (decide (k = 0)) bs) (fun us _ => match us with | [.int _ k] => l.length - k.toNat | _ => 0) rfl ?_ ?_
  · exact ⟨0, none, [], rfl, by omega, wb0, by simp, ⟨Nat.le_refl _, fun _ _ _ _ => rfl, fun p ep => by cases ep⟩, ob3, rfl⟩
  intro u h4 v20
  rintro ⟨k, a, bs, e, hk, wb, hbs, F, ob4, G⟩
  cases e
  have hF := F.1
  refine gA ?_
  refine HIf.mk (fun hlt => ?_) (fun hlt => ?_)
  · have hk1 : k < l.length := by have := of_decide_eq_true hlt; omega
    have hmu : l.length - ((k : Int) + 1).toNat < l.length - ((k : Int)).toNat := by omega
    have we4 : Own h4 h2.size 24 3 ea l.length ec (l.flatMap cellsV) := Own.same we fun b hb => by
      obtain ⟨p, ep, rfl⟩ := blk_of hb
      have := we.lt p ep
      exact F.2.1 _ this.2 (by have := ob2.lt; omega) (by omega)
    rw [List.drop_eq_getElem_cons hk1] at G
    have hox := hok _ (List.getElem_mem hk1)
    refine gA ?_
    refine HIdx.mk k rfl hk1 ?_
    refine sl_some we4.sl hk1 fun p ep => ?_
    refine gA ?_
    refine Sl.loadV we4.sl ep hk1 ?_
    generalize l[k] = x at G hox
    refine gA ?_
    refine new_var (e := 24) [.int .i64 0, .int .i64 0, .string ⟨#[]⟩] rfl ?_
    intro h5 b9 o9 x5 z5 hb9
    refine gA ?_
    refine store_blk o9 (by simp) (by simp [isOne]) ?_
    intro h6 f6 z6 o9
    replace o9 : BlkW h6 b9 24 (cellsV x) := by simpa using o9
    have x6 : Ext h4 h6 := x5.offNew f6 (by omega)
    have wb6 := wb.ext x6
    have F6 := F.ext x6
    have ob6 := ob4.ext x6
    have hx6 := x6.1
    have hwbl : ∀ p, a = some p → p.block < h4.size := fun p ep => (wb.lt p ep).2
    clear wb F ob4 we4
    refine gB ?_
    refine cut_rule [31] (fun us h' => ∃ (a : Option Addr), us = [.bool false] ∧ ¬ (decide (k = 0) = false ∧ 8192 < (bs ++ [0, 44]).length) ∧ Bld h' b6 a (sepA (decide (k = 0)) bs) ∧ Fr2 bt b6 h3 h' a ∧ BlkW h' bt 87 (txC bh f) ∧ BlkW h' b9 24 (cellsV x)) rfl ?_ ?_
    · by_cases hk0 : k = 0
      · subst hk0
        have q1 : decide (((0 : Nat) : Int) > 0) = false := rfl
        refine gA ?_
        exact ⟨a, rfl, by simp, by simpa [sepA] using wb6, F6, ob6, o9⟩
      · have q1 : decide (((k : Nat) : Int) > 0) = true := decide_eq_true (by omega)
        have qk : decide (k = 0) = false := decide_eq_false hk0
        rw [qk] at G ⊢
        refine gA ?_
        refine HCall.mk ((layF_spec wb6 [0, 44] (by simp; omega)).mono ?_)
        rintro e h7 ⟨rfl, a7, wb7, g7⟩
        have F7 := F6.gb g7
        have ob7 := g7.blk ob6 hne (fun p ep => by have := F6.2.2 p ep; omega)
        have o97 := g7.blk o9 (by omega) (fun p ep => by have := hwbl p ep; omega)
        by_cases hlen : 8192 < (bs ++ [0, 44]).length
        · have q2 : (!decide (((bs ++ [0, 44]).length : Int) ≤ 8192)) = true := by rw [decide_eq_false (by omega)]; rfl
          have G' : arrGo (textP H f) l true [] = none := by
            rw [G]
            unfold arrGo
            rw [if_pos ⟨rfl, hlen⟩]
          rw [G']
          refine gA ?_
          exact ⟨rfl, fin _ _ F7, ob7⟩
        · have q2 : (!decide (((bs ++ [0, 44]).length : Int) ≤ 8192)) = false := by rw [decide_eq_true (by omega)]; rfl
          refine gA ?_
          exact ⟨a7, by show [Value.bool (!decide (((bs ++ [0, 44]).length : Int) ≤ 8192))] = _; rw [q2], fun hh => hlen hh.2, wb7, F7, ob7, o97⟩
    intro u7 h7 v31
    rintro ⟨a7, e, hnl, wb7, F7, ob7, o97⟩
    cases e
    have G7 : arrGo (textP H f) l true [] = if x.k = 0 ∨ x.k = 1 then arrGo (textP H f) (l.drop (k + 1)) false (sepA (decide (k = 0)) bs) else match textP H f x with
      | none => none
      | some u => if 8192 < (sepA (decide (k = 0)) bs ++ u.data.toList).length then none else arrGo (textP H f) (l.drop (k + 1)) false (sepA (decide (k = 0)) bs ++ u.data.toList) := by
      rw [G]
      conv => lhs; unfold arrGo
      rw [if_neg hnl]
      try rfl
    have hs7 : (sepA (decide (k = 0)) bs).length ≤ 8192 ∨ k = 0 ∧ sepA (decide (k = 0)) bs = bs := by
      by_cases hk0 : k = 0
      · subst hk0; exact .inr ⟨rfl, rfl⟩
      · left
        have qk : decide (k = 0) = false := decide_eq_false hk0
        rw [qk] at hnl ⊢
        have : ¬ 8192 < (bs ++ [0, 44]).length := fun hh => hnl ⟨rfl, hh⟩
        show (bs ++ [0, 44]).length ≤ 8192
        omega
    have hs8 : (sepA (decide (k = 0)) bs).length ≤ 8194 := by rcases hs7 with h1 | ⟨_, h1⟩ <;> first | omega | (rw [h1]; omega)
    have hk1' : decide (k + 1 = 0) = false := rfl
    generalize sepA (decide (k = 0)) bs = bs7 at wb7 G7 hs8
    clear hs7 hnl
    by_cases hx0 : x.k = 0 ∨ x.k = 1
    · rw [if_pos hx0] at G7
      rcases hx0 with hx0 | hx0
      · have q1 : (x.k == 0) = true := by rw [hx0]; rfl
        refine gA ?_
        exact ⟨⟨k + 1, a7, bs7, rfl, by omega, wb7, hs8, F7, ob7, by rw [hk1']; exact G7⟩, hmu⟩
      · have q1 : (x.k == 0) = false := by rw [hx0]; rfl
        have q2 : (x.k == 1) = true := by rw [hx0]; rfl
        refine gA ?_
        exact ⟨⟨k + 1, a7, bs7, rfl, by omega, wb7, hs8, F7, ob7, by rw [hk1']; exact G7⟩, hmu⟩
    · rw [if_neg hx0] at G7
      have q1 : (x.k == 0) = false := beq_eq_false_iff_ne.2 (fun e => hx0 (.inl e))
      have q2 : (x.k == 1) = false := beq_eq_false_iff_ne.2 (fun e => hx0 (.inr e))
      refine gA ?_
      refine HCall.mk ((ih x h7 hox (tOf _ _ F7) ob7).mono ?_)
      rintro e h8 ⟨rfl, f8, ob8⟩
      have F8 := F7.off f8
      have wb8 := wb7.off f8 (Ne.symm hne) (fun p ep => by have := F7.2.2 p ep; omega)
      cases ht : textP H f x with
      | none =>
        rw [ht] at G7
        rw [G7]
        refine gA ?_
        exact ⟨rfl, fin _ _ F8, ob8⟩
      | some w =>
        rw [ht] at G7
        obtain ⟨⟨wl⟩⟩ := w
        have hwl : wl.length ≤ 8192 := (text_ok g cl f x hox _ ht).1
        refine gA ?_
        refine HCall.mk ((layF_spec wb8 wl (by omega)).mono ?_)
        rintro e h9 ⟨rfl, a9, wb9, g9⟩
        have F9 := F8.gb g9
        have ob9 := g9.blk ob8 hne (fun p ep => by have := F8.2.2 p ep; omega)
        replace G7 : arrGo (textP H f) l true [] = if 8192 < (bs7 ++ wl).length then none else arrGo (textP H f) (l.drop (k + 1)) false (bs7 ++ wl) := G7
        by_cases hlen : 8192 < (bs7 ++ wl).length
        · have q3 : (!decide (((bs7 ++ wl).length : Int) ≤ 8192)) = true := by rw [decide_eq_false (by omega)]; rfl
          rw [if_pos hlen] at G7
          rw [G7]
          refine gA ?_
          exact ⟨rfl, fin _ _ F9, ob9⟩
        · have q3 : (!decide (((bs7 ++ wl).length : Int) ≤ 8192)) = false := by rw [decide_eq_true (by omega)]; rfl
          rw [if_neg hlen] at G7
          refine gA ?_
          exact ⟨⟨k + 1, a9, bs7 ++ wl, rfl, by omega, wb9, by omega, F9, ob9, by rw [hk1']; exact G7⟩, hmu⟩
  · have hge := of_decide_eq_false hlt
    obtain rfl : k = l.length := by omega
    rw [List.drop_length] at G
    have G' : arrGo (textP H f) l true [] = some bs := G
    rw [G']
    refine gA ?_
    refine HCall.mk ((string_spec wb (by omega)).mono ?_)
    rintro e h5 ⟨rfl, n5, f5⟩
    have F5 : Off bt h h5 ∧ BlkW h5 bt 87 (txC bh f) := by
      cases a with
      | none => obtain rfl := n5 rfl; exact ⟨fin _ _ F, ob4⟩
      | some p =>
        have fo := f5 p rfl
        have hp := F.2.2 p rfl
        exact ⟨fin h5 (some p) ⟨Nat.le_trans F.1 fo.1, fun y hy h1 h2 => by rw [fo.2 y (by omega) (by omega), F.2.1 y hy h1 h2], F.2.2⟩, ob4.offk fo (by omega)⟩
    refine gA ?_
    exact ⟨rfl, F5.1, F5.2⟩
set_option maxHeartbeats 16000000
theorem name_ok {H : PH} (g : Good H) (cl : ClsOk H) {f : Nat} {v : VV} {a : ByteArray} (e : nameT H f v = some a) : TxtOk a := by
  unfold nameT at e
  split at e
  · cases e; exact uS_ok (by decide)
  · exact text_ok g cl f _ (get_ok g v _) a e
theorem msg_ok {H : PH} (g : Good H) (cl : ClsOk H) {f : Nat} {v : VV} {a : ByteArray} (e : msgT H f v = some a) : TxtOk a := by
  unfold msgT at e
  split at e
  · cases e; exact ⟨by show (0 : Nat) ≤ 8192; omega, rfl⟩
  · exact text_ok g cl f _ (get_ok g v _) a e
theorem plain_name : plainL wName := by unfold plainL; decide
theorem plain_msg : plainL wMessage := by unfold plainL; decide
theorem plain_err : plainL wError := by unfold plainL; decide
theorem fail_spec {h0 : Heap} {bt bh : Nat} {H : PH} {Z : HZ} {f : Nat} (g : Good H) (cl : ClsOk H) (ih : TextAt h0 bt bh H Z f) (v : VV) (h : Heap) (hv : VOk v) (t : TxAt h0 bt bh H Z h) (ob : BlkW h bt 87 (txC bh f)) :
    HCalls Tryz.prog 142 #[.pointer (some ⟨bt, 0, none⟩), .agg (cellsV v).toArray] h fun e h' => e = .returned (textR (failT H f v)) ∧ Off bt h h' ∧ BlkW h' bt 87 (txC bh f) := by
  refine c142 (by simp) ?_
  have hbt := ob.lt
  refine gA ?_
  refine new_var (e := 24) (cellsV v) rfl ?_
  intro h1 b3 o3 x1 z1 hb3
  refine gA ?_
  refine HCall.mk ((plainF_spec wError plain_err (by decide) h1).mono ?_)
  rintro e h2 ⟨rfl, x2⟩
  have o3 := o3.ext x2
  have x02 := x1.trans x2
  have lb3 := o3.lt
  have hx2 := x02.1
  refine gA ?_
  refine new_var (e := 31) [.string ⟨#[]⟩, .string ⟨#[]⟩] rfl ?_
  intro h3 b6 o6 x3 z3 hb6
  have o3 := o3.ext x3
  refine gA ?_
  refine store_blk o6 (by simp) (by simp [isOne]) ?_
  intro h4 f4 z4 o6
  replace o6 : BlkW h4 b6 31 [.string (uS wError), .string noS] := by simpa using o6
  have o3 := o3.offk f4 (by omega)
  have x04 : Ext h h4 := (x02.trans x3).offNew f4 (by omega)
  have ob4 := ob.ext x04
  have t4 := t.ext x04
  have hne : bt ≠ b6 := by omega
  have hx4 := x04.1
  have lb34 := o3.lt
  have lb64 := o6.lt
  have fin : ∀ (h' : Heap), Fr2 bt b6 h4 h' none → Off bt h h' := fun h' F => ⟨by have := F.1; omega, fun y hy hn => by
    rw [F.2.1 y (by omega) hn (by omega), x04.2 y hy]⟩
  have tOf : ∀ (h' : Heap), Fr2 bt b6 h4 h' none → TxAt h0 bt bh H Z h' := fun h' F => by
    have hz := t.hb
    have h03 := t4.x
    refine ⟨⟨by have := F.1; have := h03.1; omega, fun y hy => by rw [F.2.1 y (by have := h03.1; omega) (by omega) (by omega), h03.2 y hy]⟩, t.hb, t4.r.same fun b hb => ?_, t.nb⟩
    have h1 := t4.r.lt b hb
    have h2 := t.r.lt b hb
    exact F.2.1 b h1 (fun e => t.nb (e ▸ hb)) (by omega)
  have o35 : ∀ (h' : Heap), Fr2 bt b6 h4 h' none → BlkW h' b3 24 (cellsV v) := fun h' F => o3.of (F.2.1 b3 lb34 (by omega) (by omega))
  clear x1 x2 x3 f4 ob
  refine gA ?_
  refine loop_rule [16] (fun us h' => ∃ (k : Nat) (a b : ByteArray), us = [.int .i64 k] ∧ k ≤ 2 ∧ BlkW h' b6 31 [.string a, .string b] ∧ (k = 0 → a = uS wError) ∧ (1 ≤ k → nameT H f v = some a) ∧ (k ≤ 1 → b = noS) ∧ (k = 2 → msgT H f v = some b) ∧
    Fr2 bt b6 h4 h' none ∧ BlkW h' bt 87 (txC bh f)) (fun us _ => match us with | [.int _ k] => 2 - k.toNat | _ => 0) rfl ?_ ?_
  · exact ⟨0, uS wError, noS, rfl, by omega, by assumption, fun _ => rfl, fun h => by omega, fun _ => rfl, fun h => by omega, ⟨Nat.le_refl _, fun _ _ _ _ => rfl, fun p ep => by cases ep⟩, ob4⟩
  clear o6 o3 ob4
  intro u h5 v16
  rintro ⟨k, a, b, e, hk, o6, ka, kA, kb, kB, F, ob5⟩
  cases e
  have hF := F.1
  have t5 := tOf _ F
  refine gA ?_
  refine HIf.mk (fun hlt => ?_) (fun hlt => ?_)
  · have hk2 : k < 2 := by have := of_decide_eq_true hlt; omega
    have hmu : 2 - ((k : Int) + 1).toNat < 2 - ((k : Int)).toNat := by omega
    obtain ⟨kl, pl, hkl, hkk⟩ : ∃ kl : List UInt8, plainL kl ∧ kl.length ≤ 7 ∧ ((k = 0 ∧ kl = wName) ∨ (k = 1 ∧ kl = wMessage)) := by
      rcases (show k = 0 ∨ k = 1 by omega) with e | e
      · exact ⟨wName, plain_name, by decide, .inl ⟨e, rfl⟩⟩
      · exact ⟨wMessage, plain_msg, by decide, .inr ⟨e, rfl⟩⟩
    have o3 := o35 _ F
    refine gA ?_
    refine raw_idx1 (v := .string ⟨kl.toArray⟩) (cs := #[.string ⟨wName.toArray⟩, .string ⟨wMessage.toArray⟩]) k rfl ?_ ?_ Tryz.underlying31 hk2 (by kernel_rfl) (by kernel_rfl) (by rcases hkk with ⟨rfl, rfl⟩ | ⟨rfl, rfl⟩ <;> rfl) ?_
    · rfl
    · rfl
    refine gB ?_
    refine cut_rule [9] (fun us h' => ∃ b9, us = [.pointer (some ⟨b9, 0, none⟩)] ∧ BlkW h' b9 24 (cellsV (getP H v (uS kl))) ∧ Ext h5 h' ∧ h5.size ≤ b9) rfl ?_ ?_
    · have X := Ext.refl h5
      have xh := t5.r
      refine gA ?_
      repeat' (first
        | (refine HAlt.mk ?_ ?_ <;> refine gA ?_)
        | (refine new_var (e := 24) [.int .i64 0, .int .i64 0, .string ⟨#[]⟩] rfl ?_
           intro hn b9 o9 xn zn hb9
           have lb9 : h5.size ≤ b9 := by have := X.1; omega
           have o9c := o9
           have X := X.trans xn
           have ob5 := ob5.ext xn
           have o3 := o3.ext xn
           refine gA ?_)
        | (refine HCall.mk ((plainF_spec kl pl (by omega) _).mono ?_)
           rintro e hn ⟨rfl, xn⟩
           have X := X.trans xn
           have ob5 := ob5.ext xn
           have o3 := o3.ext xn
           try have o9 := o9.ext xn
           refine gA ?_)
        | (refine HCall.mk ((hget_spec (xh.ext X) g.wf g.few v hv.i (uS kl)).mono ?_)
           rintro e hn ⟨rfl, xn⟩
           have X := X.trans xn
           have ob5 := ob5.ext xn
           have o3 := o3.ext xn
           try have o9 := o9.ext xn
           refine gA ?_)
        | (refine store_blk o9 (by simp) (by simp [isOne]) ?_
           intro hn fn zn on
           replace on : BlkW hn b9 24 (cellsV (getP H v (uS kl))) := by simpa using on
           refine gA ?_
           exact ⟨b9, rfl, on, X.offNew fn lb9, lb9⟩))
    intro u6 h6 v9
    rintro ⟨b9, e, o9, x6, lb9⟩
    cases e
    have F6 := F.ext x6
    have ob6 := ob5.ext x6
    have o66 := o6.ext x6
    have hox := get_ok g v (uS kl)
    have hnm : k = 0 → nameT H f v = if (getP H v (uS kl)).k = 0 then some (uS wError) else textP H f (getP H v (uS kl)) := by
      intro e
      rcases hkk with ⟨_, rfl⟩ | ⟨e1, _⟩
      · rfl
      · omega
    have hms : k = 1 → msgT H f v = if (getP H v (uS kl)).k = 0 then some noS else textP H f (getP H v (uS kl)) := by
      intro e
      rcases hkk with ⟨e1, _⟩ | ⟨_, rfl⟩
      · omega
      · rfl
    generalize getP H v (uS kl) = x at o9 hox hnm hms
    clear o6 ob5 F x6 o3
    by_cases hx0 : x.k = 0
    · have q1 : (x.k == 0) = true := by rw [hx0]; rfl
      rw [if_pos hx0] at hnm hms
      refine gA ?_
      refine ⟨⟨k + 1, a, b, rfl, by omega, o66, fun h => by omega, fun _ => ?_, fun h => kb (by omega), fun h => ?_, F6, ob6⟩, hmu⟩
      · rcases (show k = 0 ∨ 1 ≤ k by omega) with e | e
        · rw [hnm e, ka e]
        · exact kA e
      · rw [hms (by omega), kb (by omega)]
    · have q1 : (x.k == 0) = false := beq_eq_false_iff_ne.2 hx0
      rw [if_neg hx0] at hnm hms
      refine gA ?_
      refine HCall.mk ((ih x h6 hox (tOf _ F6) ob6).mono ?_)
      rintro e h7 ⟨rfl, f7, ob7⟩
      have F7 := F6.off f7
      have o67 := o66.offk f7 (Ne.symm hne)
      cases ht : textP H f x with
      | none =>
        rw [ht] at hnm hms
        have ef : failT H f v = none := by
          unfold failT
          rcases (show k = 0 ∨ k = 1 by omega) with e | e
          · rw [hnm e]
          · rw [kA (by omega), hms e]
        rw [ef]
        refine gA ?_
        exact ⟨rfl, fin _ F7, ob7⟩
      | some w =>
        rw [ht] at hnm hms
        refine gA ?_
        rcases (show k = 0 ∨ k = 1 by omega) with rfl | rfl
        · refine HIdx.mk 0 rfl (by decide) ?_
          refine gA ?_
          refine store1_blk (o := 0) o67 (by simp) rfl ?_
          intro h8 f8 z8 o8
          have F8 : Fr2 bt b6 h4 h8 none := ⟨by have := F7.1; have := f8.1; omega, fun y hy h1 h2 => by rw [f8.2 y (by have := F7.1; omega) h2, F7.2.1 y hy h1 h2], fun p ep => by cases ep⟩
          have ob8 := ob7.offk f8 hne
          refine gA ?_
          exact ⟨⟨1, w, b, rfl, by omega, o8, fun h => by omega, fun _ => hnm rfl, fun _ => kb (by omega), fun h => by omega, F8, ob8⟩, hmu⟩
        · refine HIdx.mk 1 rfl (by decide) ?_
          refine gA ?_
          refine store1_blk (o := 1) o67 (by simp) rfl ?_
          intro h8 f8 z8 o8
          have F8 : Fr2 bt b6 h4 h8 none := ⟨by have := F7.1; have := f8.1; omega, fun y hy h1 h2 => by rw [f8.2 y (by have := F7.1; omega) h2, F7.2.1 y hy h1 h2], fun p ep => by cases ep⟩
          have ob8 := ob7.offk f8 hne
          refine gA ?_
          exact ⟨⟨2, a, w, rfl, by omega, o8, fun h => by omega, fun _ => kA (by omega), fun h => by omega, fun _ => hms rfl, F8, ob8⟩, hmu⟩
  · have hge := of_decide_eq_false hlt
    obtain rfl : k = 2 := by omega
    have eA := kA (by omega)
    have eB := kB rfl
    have oa := name_ok g cl eA
    have ob := msg_ok g cl eB
    have ef : failT H f v = if a = noS then some b else if b = noS then some a else limP (a ++ uS wColon ++ b) := by unfold failT; rw [eA, eB]
    rw [ef]
    have hfin : Off bt h h5 ∧ BlkW h5 bt 87 (txC bh f) := ⟨fin _ F, ob5⟩
    have hsz : a.size + b.size ≤ 9223372036854775807 := by have := oa.1; have := ob.1; omega
    by_cases ha : a = noS
    · have q1 : strEq a ⟨#[]⟩ = true := (strEq_iff _ _).2 ha
      rw [if_pos ha]
      have ea : a ++ b = b := by rw [ha]; exact ByteArray.empty_append
      have e9 : textR (some b) = .tuple #[.string (a ++ b), .int .i64 0] := by rw [ea]; rfl
      rw [e9]
      refine gA ?_
      refine HIdx.mk 0 rfl (by decide) ?_
      refine gA ?_
      refine HIdx.mk 0 rfl (by decide) ?_
      refine gA ?_
      refine HIdx.mk 1 rfl (by decide) ?_
      refine gA ?_
      refine HMust.mk hsz ?_
      refine gA ?_
      exact ⟨rfl, hfin⟩
    · have q1 : strEq a ⟨#[]⟩ = false := (strEq_no _ _).2 ha
      rw [if_neg ha]
      by_cases hb : b = noS
      · have q2 : strEq b ⟨#[]⟩ = true := (strEq_iff _ _).2 hb
        rw [if_pos hb]
        have ea : a ++ b = a := by rw [hb]; exact ByteArray.append_empty
        have e9 : textR (some a) = .tuple #[.string (a ++ b), .int .i64 0] := by rw [ea]; rfl
        rw [e9]
        refine gA ?_
        refine HIdx.mk 0 rfl (by decide) ?_
        refine gA ?_
        refine HIdx.mk 1 rfl (by decide) ?_
        refine gA ?_
        refine HIdx.mk 0 rfl (by decide) ?_
        refine gA ?_
        refine HIdx.mk 1 rfl (by decide) ?_
        refine gA ?_
        refine HMust.mk hsz ?_
        refine gA ?_
        exact ⟨rfl, hfin⟩
      · have q2 : strEq b ⟨#[]⟩ = false := (strEq_no _ _).2 hb
        rw [if_neg hb]
        have X := Ext.refl h5
        refine gA ?_
        refine HIdx.mk 0 rfl (by decide) ?_
        refine gA ?_
        refine HIdx.mk 1 rfl (by decide) ?_
        refine gA ?_
        refine HIdx.mk 0 rfl (by decide) ?_
        refine gA ?_
        refine HIdx.mk 1 rfl (by decide) ?_
        refine gA ?_
        repeat' (first
          | (refine HAlt.mk ?_ ?_ <;> refine gA ?_)
          | (refine HMust.mk (by simp only [app_size, uS_size, List.length_cons, List.length_nil]; have := oa.1; have := ob.1; omega) ?_
             refine gA ?_)
          | (refine HCall.mk ((plainF_spec wColon (by unfold plainL; decide) (by decide) _).mono ?_)
             rintro e hn ⟨rfl, xn⟩
             have X := X.trans xn
             have o6 := o6.ext xn
             refine gA ?_)
          | (refine HCall.mk ((limited_spec (a ++ uS wColon ++ b) (by rw [app_size, app_size, uS_size]; have := oa.2; have := ob.2; omega) (by rw [app_size, app_size, uS_size]; have := oa.1; have := ob.1; simp; omega) _).mono ?_)
             rintro e hn ⟨rfl, rfl⟩
             have hX := X.1
             cases hl : limP (a ++ uS wColon ++ b)
             all_goals
               refine gA ?_
               exact ⟨rfl, ⟨by have := hfin.1.1; omega, fun y hy hn => by rw [X.2 y (by have := hfin.1.1; omega), hfin.1.2 y hy hn]⟩, hfin.2.ext X⟩))
theorem object_spec {h0 : Heap} {bt bh : Nat} {H : PH} {Z : HZ} {f : Nat} (g : Good H) (cl : ClsOk H) (ih : TextAt h0 bt bh H Z f) (v : VV) (h : Heap) (hv : VOk v) (t : TxAt h0 bt bh H Z h) (ob : BlkW h bt 87 (txC bh f)) :
    HCalls Tryz.prog 99 #[.pointer (some ⟨bt, 0, none⟩), .agg (cellsV v).toArray] h fun e h' => e = .returned (textR (objT H f v)) ∧ Off bt h h' ∧ BlkW h' bt 87 (txC bh f) := by
  refine c99 (by simp) ?_
  have hbt := ob.lt
  refine gA ?_
  refine new_var (e := 24) (cellsV v) rfl ?_
  intro h1 b3 o3 x1 z1 hb3
  have ob1 := ob.ext x1
  have t1 := t.ext x1
  refine gA ?_
  refine HCall.mk ((hclass_spec t1.r v hv.i g.few.len).mono ?_)
  rintro e h2 ⟨rfl, x2⟩
  have o3 := o3.ext x2
  have ob2 := ob1.ext x2
  have t2 := t1.ext x2
  have x02 := x1.trans x2
  have f02 : ∀ h', Off bt h2 h' → Off bt h h' := fun h' f2 => ⟨by have := x02.1; have := f2.1; omega, fun y hy hn => by rw [f2.2 y (by have := x02.1; omega) hn, x02.2 y hy]⟩
  have hcl := cls_ok cl v
  unfold objT
  by_cases c1 : clsP H v = funcS
  · have q1 : strEq (clsP H v) ⟨#[70, 117, 110, 99, 116, 105, 111, 110]⟩ = true := (strEq_iff _ _).2 c1
    rw [if_pos c1]
    refine gA ?_
    refine HCall.mk ((plainF_spec wFunction (by unfold plainL; decide) (by decide) h2).mono ?_)
    rintro e h3 ⟨rfl, x3⟩
    refine gA ?_
    exact ⟨rfl, f02 _ x3.off, ob2.ext x3⟩
  have q1 : strEq (clsP H v) ⟨#[70, 117, 110, 99, 116, 105, 111, 110]⟩ = false := (strEq_no _ _).2 c1
  rw [if_neg c1]
  by_cases c2 : clsP H v = arrS
  · have q2 : strEq (clsP H v) ⟨#[65, 114, 114, 97, 121]⟩ = true := (strEq_iff _ _).2 c2
    rw [if_pos c2]
    refine gA ?_
    refine HCall.mk ((tarray_spec g cl ih v h2 hv t2 ob2).mono ?_)
    rintro e h3 ⟨rfl, f3, ob3⟩
    cases arrT H f v
    all_goals
      refine gA ?_
      exact ⟨rfl, f02 _ f3, ob3⟩
  have q2 : strEq (clsP H v) ⟨#[65, 114, 114, 97, 121]⟩ = false := (strEq_no _ _).2 c2
  rw [if_neg c2]
  by_cases c3 : clsP H v = errS
  · have q3 : strEq (clsP H v) ⟨#[69, 114, 114, 111, 114]⟩ = true := (strEq_iff _ _).2 c3
    rw [if_pos c3]
    refine gA ?_
    refine HCall.mk ((fail_spec g cl ih v h2 hv t2 ob2).mono ?_)
    rintro e h3 ⟨rfl, f3, ob3⟩
    cases failT H f v
    all_goals
      refine gA ?_
      exact ⟨rfl, f02 _ f3, ob3⟩
  have q3 : strEq (clsP H v) ⟨#[69, 114, 114, 111, 114]⟩ = false := (strEq_no _ _).2 c3
  rw [if_neg c3]
  refine gA ?_
  have hp : plainL (wObj ++ (clsP H v).data.toList ++ [93]) := by
    intro c hc
    rcases List.mem_append.1 hc with hc | hc
    · rcases List.mem_append.1 hc with hc | hc
      · exact (show plainL wObj by unfold plainL; decide) c hc
      · exact hcl.2 c hc
    · simp at hc; subst hc; decide
  have s1 : (⟨#[91, 111, 98, 106, 101, 99, 116, 32]⟩ : ByteArray).size = 8 := rfl
  have s2 : (⟨#[93]⟩ : ByteArray).size = 1 := rfl
  refine HMust.mk (by have := hcl.1; omega) ?_
  refine gA ?_
  refine HMust.mk (by rw [app_size]; have := hcl.1; omega) ?_
  refine gA ?_
  refine HCall.to #[.string ⟨(wObj ++ (clsP H v).data.toList ++ [93]).toArray⟩] ?_ ?_
  · have : (⟨(wObj ++ (clsP H v).data.toList ++ [93]).toArray⟩ : ByteArray) = ⟨#[91, 111, 98, 106, 101, 99, 116, 32]⟩ ++ clsP H v ++ ⟨#[93]⟩ := by
      apply ByteArray.ext
      rw [ByteArray.data_append, ByteArray.data_append]
      apply Array.ext'
      simp
    rw [this]
    try rfl
  refine (plainF_spec _ hp (by simp only [List.length_append, List.length_cons, List.length_nil, ba_len]; have := hcl.1; omega) h2).mono ?_
  rintro e h3 ⟨rfl, x3⟩
  refine gA ?_
  exact ⟨rfl, f02 _ x3.off, ob2.ext x3⟩
set_option maxHeartbeats 16000000
theorem vtext_step {h0 : Heap} {bt bh : Nat} {H : PH} {Z : HZ} (g : Good H) (cl : ClsOk H) (tab : Tab h0) (f : Nat) (hf : f ≤ 20) (ih : ∀ f', f = f' + 1 → TextAt h0 bt bh H Z f') : TextAt h0 bt bh H Z f := by
    intro v h hv t ob
    refine c54 (by simp) ?_
    refine gA ?_
    refine new_var (e := 24) (cellsV v) rfl ?_
    intro h1 b3 o3 x1 z1 hb3
    have ob1 := ob.ext x1
    have t1 := t.ext x1
    have hn := hv.n
    refine gA ?_
    by_cases k1 : v.k = 1
    · have q1 : (v.k == 1) = true := by rw [k1]; rfl
      rw [textP_null k1]
      refine gA ?_
      refine HCall.mk ((plainF_spec wNull (by unfold plainL; decide) (by decide) h1).mono ?_)
      rintro e h2 ⟨rfl, x2⟩
      refine gA ?_
      exact ⟨rfl, (x1.trans x2).off, ob1.ext x2⟩
    have q1 : (v.k == 1) = false := beq_eq_false_iff_ne.2 k1
    by_cases k2 : v.k = 2
    · have q2 : (v.k == 2) = true := by rw [k2]; rfl
      rw [textP_bool k2]
      refine gA ?_
      refine HCall.mk ((fbool_spec (v.n != 0) h1).mono ?_)
      rintro e h2 ⟨rfl, rfl⟩
      by_cases hn0 : v.n = 0
      · have e0 : (v.n != 0) = false := by rw [hn0]; rfl
        rw [e0, if_neg (by simp), if_pos hn0]
        refine gA ?_
        refine HCall.mk ((plainF_spec wFalse (by unfold plainL; decide) (by decide) h2).mono ?_)
        rintro e h3 ⟨rfl, x3⟩
        refine gA ?_
        exact ⟨rfl, (x1.trans x3).off, ob1.ext x3⟩
      · have e0 : (v.n != 0) = true := by simp [hn0]
        rw [e0, if_pos rfl, if_neg hn0]
        refine gA ?_
        refine HCall.mk ((plainF_spec wTrue (by unfold plainL; decide) (by decide) h2).mono ?_)
        rintro e h3 ⟨rfl, x3⟩
        refine gA ?_
        exact ⟨rfl, (x1.trans x3).off, ob1.ext x3⟩
    have q2 : (v.k == 2) = false := beq_eq_false_iff_ne.2 k2
    by_cases k3 : v.k = 3
    · have q3 : (v.k == 3) = true := by rw [k3]; rfl
      rw [textP_num k3]
      refine gA ?_
      refine HCall.mk ((text_spec v.n (by omega) (by omega) h1 (tab.ext t1.x)).mono ?_)
      rintro e h2 ⟨rfl, x2⟩
      refine gA ?_
      exact ⟨rfl, (x1.trans x2).off, ob1.ext x2⟩
    have q3 : (v.k == 3) = false := beq_eq_false_iff_ne.2 k3
    by_cases k4 : v.k = 4
    · have q4 : (v.k == 4) = true := by rw [k4]; rfl
      rw [textP_str k4]
      refine gA ?_
      refine HCall.mk ((limited_spec v.s hv.even (by have := hv.s; omega) h1).mono ?_)
      rintro e h2 ⟨rfl, rfl⟩
      cases limP v.s
      all_goals
        refine gA ?_
        exact ⟨rfl, x1.off, ob1⟩
    have q4 : (v.k == 4) = false := beq_eq_false_iff_ne.2 k4
    by_cases k7 : v.k = 7
    · have q7 : (v.k == 7) = true := by rw [k7]; rfl
      cases f with
      | zero =>
        rw [textP_deep k7]
        have q8 : ((20 - ((0 : Nat) : Int)) == 20) = true := rfl
        refine gA ?_
        exact ⟨rfl, x1.off, ob1⟩
      | succ f =>
        rw [textP_ref k7]
        have q8 : ((20 - ((f + 1 : Nat) : Int)) == 20) = false := beq_eq_false_iff_ne.2 (by omega)
        refine gA ?_
        refine blk_st (o := 1) (v := .int .i64 (20 - ((f + 1 : Nat) : Int) + 1)) ob1 (by simp) rfl ?_
        intro h2 f2 z2 o2
        have e2 : (20 - ((f + 1 : Nat) : Int) + 1) = 20 - (f : Int) := by omega
        rw [e2] at o2
        replace o2 : BlkW h2 bt 87 (txC bh f) := o2
        have t2 := t1.off f2
        have lb := ob.lt
        have o32 := o3.offk f2 (by omega)
        refine gA ?_
        refine HCall.mk ((object_spec g cl (ih f rfl) v h2 hv t2 o2).mono ?_)
        rintro e h3 ⟨rfl, f3, ob3⟩
        have ff : ∀ h4, Off bt h3 h4 → Off bt h h4 := fun h4 f4 => ((x1.off.trans f2).trans f3).trans f4
        cases objT H f v
        all_goals
          refine gA ?_
          refine blk_st (o := 1) (v := .int .i64 (20 - (f : Int) - 1)) ob3 (by simp) rfl ?_
          intro h4 f4 z4 o4
          have e4 : (20 - (f : Int) - 1) = 20 - ((f + 1 : Nat) : Int) := by omega
          rw [e4] at o4
          replace o4 : BlkW h4 bt 87 (txC bh (f + 1)) := o4
          refine gA ?_
          exact ⟨rfl, ff _ f4, o4⟩
    have q7 : (v.k == 7) = false := beq_eq_false_iff_ne.2 k7
    rw [textP_und k1 k2 k3 k4 k7]
    refine gA ?_
    refine HCall.mk ((plainF_spec wUndef (by unfold plainL; decide) (by decide) h1).mono ?_)
    rintro e h2 ⟨rfl, x2⟩
    refine gA ?_
    exact ⟨rfl, (x1.trans x2).off, ob1.ext x2⟩
theorem vtext_spec {h0 : Heap} {bt bh : Nat} {H : PH} {Z : HZ} (g : Good H) (cl : ClsOk H) (tab : Tab h0) : ∀ f, f ≤ 20 → TextAt h0 bt bh H Z f
  | 0, hf => vtext_step g cl tab 0 hf fun f' e => by omega
  | f + 1, hf => vtext_step g cl tab (f + 1) hf fun f' e => by
    obtain rfl : f = f' := by omega
    exact vtext_spec g cl tab f (by omega)
theorem otext_spec {bh : Nat} {H : PH} {Z : HZ} (g : Good H) (cl : ClsOk H) (v : VV) (h : Heap) (tab : Tab h) (hv : VOk v) (r : HeapR h bh H Z) :
    HCalls Tryz.prog 13 #[.pointer (some ⟨bh, 0, none⟩), .agg (cellsV v).toArray] h fun e h' => e = .returned (textR (textT H v)) ∧ Ext h h' := by
  refine c13 (by simp) ?_
  refine gA ?_
  refine new_var (e := 24) (cellsV v) rfl ?_
  intro h1 b3 o3 x1 z1 hb3
  refine gA ?_
  refine new_var (e := 87) (txC bh 20) rfl ?_
  intro h2 b8 o8 x2 z2 hb8
  have o3 := o3.ext x2
  have x02 := x1.trans x2
  have hx1 := x1.1
  refine gA ?_
  have t : TxAt h b8 bh H Z h2 := ⟨x02, by omega, r.ext x02, fun hm => by have := r.lt _ hm; omega⟩
  refine HCall.mk ((vtext_spec g cl tab 20 (Nat.le_refl _) v h2 hv t o8).mono ?_)
  rintro e h3 ⟨rfl, f3, o83⟩
  unfold textT
  cases textP H 20 v
  all_goals
    refine gA ?_
    exact ⟨rfl, x02.offNew f3 (by omega)⟩
theorem onumber_spec {bh : Nat} {H : PH} {Z : HZ} (g : Good H) (cl : ClsOk H) (v : VV) (h : Heap) (gl : Glob h) (hv : VOk v) (r : HeapR h bh H Z) :
    HCalls Tryz.prog 20 #[.pointer (some ⟨bh, 0, none⟩), .agg (cellsV v).toArray] h fun e h' => e = .returned (numR (numP H v)) ∧ Ext h h' := by
  refine c20 (by simp) ?_
  refine gA ?_
  refine new_var (e := 24) (cellsV v) rfl ?_
  intro h1 b3 o3 x1 z1 hb3
  have g1 := gl.ext x1
  refine gA ?_
  by_cases k1 : v.k = 1
  · have q1 : (v.k == 1) = true := by rw [k1]; rfl
    have e : numP H v = some v.n := by unfold numP; rw [if_pos (.inl k1)]
    rw [e]
    refine gA ?_
    exact ⟨rfl, x1⟩
  have q1 : (v.k == 1) = false := beq_eq_false_iff_ne.2 k1
  by_cases k2 : v.k = 2
  · have q2 : (v.k == 2) = true := by rw [k2]; rfl
    have e : numP H v = some v.n := by unfold numP; rw [if_pos (.inr (.inl k2))]
    rw [e]
    refine gA ?_
    exact ⟨rfl, x1⟩
  have q2 : (v.k == 2) = false := beq_eq_false_iff_ne.2 k2
  by_cases k3 : v.k = 3
  · have q3 : (v.k == 3) = true := by rw [k3]; rfl
    have e : numP H v = some v.n := by unfold numP; rw [if_pos (.inr (.inr k3))]
    rw [e]
    refine gA ?_
    exact ⟨rfl, x1⟩
  have q3 : (v.k == 3) = false := beq_eq_false_iff_ne.2 k3
  by_cases k47 : v.k = 4 ∨ v.k = 7
  · have e : numP H v = match textT H v with
      | none => none
      | some u => readN u.data.toList := by
      unfold numP
      rw [if_neg (by omega), if_pos k47]
      try rfl
    rw [e]
    have rest : ∀ (q : ((v.k == 4) = true) ∨ (((v.k == 4) = false) ∧ ((v.k == 7) = true))), True := fun _ => trivial
    rcases k47 with k4 | k7
    · have q4 : (v.k == 4) = true := by rw [k4]; rfl
      refine gA ?_
      refine HCall.mk ((otext_spec g cl v h1 g1.1 hv (r.ext x1)).mono ?_)
      rintro e h2 ⟨rfl, x2⟩
      have g2 := g1.ext x2
      cases ht : textT H v with
      | none =>
        refine gA ?_
        exact ⟨rfl, x1.trans x2⟩
      | some u =>
        obtain ⟨⟨ul⟩⟩ := u
        have hu := (text_ok g cl 20 v hv _ ht).1
        refine gA ?_
        refine HCall.mk ((read_spec ul (by have : ul.length ≤ 8192 := hu; omega) h2 g2).mono ?_)
        rintro e h3 ⟨rfl, x3⟩
        cases hr : readN ul
        all_goals
          refine gA ?_
          refine ⟨?_, (x1.trans x2).trans x3⟩
          show _ = Ending.returned (numR (readN ul))
          rw [hr]
          try rfl
    · have q4 : (v.k == 4) = false := by rw [k7]; rfl
      have q7 : (v.k == 7) = true := by rw [k7]; rfl
      refine gA ?_
      refine HCall.mk ((otext_spec g cl v h1 g1.1 hv (r.ext x1)).mono ?_)
      rintro e h2 ⟨rfl, x2⟩
      have g2 := g1.ext x2
      cases ht : textT H v with
      | none =>
        refine gA ?_
        exact ⟨rfl, x1.trans x2⟩
      | some u =>
        obtain ⟨⟨ul⟩⟩ := u
        have hu := (text_ok g cl 20 v hv _ ht).1
        refine gA ?_
        refine HCall.mk ((read_spec ul (by have : ul.length ≤ 8192 := hu; omega) h2 g2).mono ?_)
        rintro e h3 ⟨rfl, x3⟩
        cases hr : readN ul
        all_goals
          refine gA ?_
          refine ⟨?_, (x1.trans x2).trans x3⟩
          show _ = Ending.returned (numR (readN ul))
          rw [hr]
          try rfl
  · have q4 : (v.k == 4) = false := beq_eq_false_iff_ne.2 (fun e => k47 (.inl e))
    have q7 : (v.k == 7) = false := beq_eq_false_iff_ne.2 (fun e => k47 (.inr e))
    have e : numP H v = none := by unfold numP; rw [if_neg (by omega), if_neg k47]
    rw [e]
    refine gA ?_
    exact ⟨rfl, x1⟩
theorem otypeof_spec {bh : Nat} {H : PH} {Z : HZ} (g : Good H) (v : VV) (h : Heap) (hv : VOk v) (r : HeapR h bh H Z) :
    HCalls Tryz.prog 30 #[.pointer (some ⟨bh, 0, none⟩), .agg (cellsV v).toArray] h fun e h' => e = .returned (.string ⟨(tyP H v).toArray⟩) ∧ Ext h h' := by
  refine c30 (by simp) ?_
  refine gA ?_
  refine new_var (e := 24) (cellsV v) rfl ?_
  intro h1 b3 o3 x1 z1 hb3
  refine gA ?_
  by_cases k2 : v.k = 2
  · have q2 : (v.k == 2) = true := by rw [k2]; rfl
    have e : tyP H v = [98, 111, 111, 108, 101, 97, 110] := by unfold tyP; rw [if_pos k2]
    rw [e]
    refine gA ?_
    exact ⟨rfl, x1⟩
  have q2 : (v.k == 2) = false := beq_eq_false_iff_ne.2 k2
  by_cases k3 : v.k = 3
  · have q3 : (v.k == 3) = true := by rw [k3]; rfl
    have e : tyP H v = [110, 117, 109, 98, 101, 114] := by unfold tyP; rw [if_neg k2, if_pos k3]
    rw [e]
    refine gA ?_
    exact ⟨rfl, x1⟩
  have q3 : (v.k == 3) = false := beq_eq_false_iff_ne.2 k3
  by_cases k4 : v.k = 4
  · have q4 : (v.k == 4) = true := by rw [k4]; rfl
    have e : tyP H v = [115, 116, 114, 105, 110, 103] := by unfold tyP; rw [if_neg k2, if_neg k3, if_pos k4]
    rw [e]
    refine gA ?_
    exact ⟨rfl, x1⟩
  have q4 : (v.k == 4) = false := beq_eq_false_iff_ne.2 k4
  by_cases k17 : v.k = 1 ∨ v.k = 7
  · have e : tyP H v = if clsP H v = funcS then wFunction else [111, 98, 106, 101, 99, 116] := by unfold tyP; rw [if_neg k2, if_neg k3, if_neg k4, if_pos k17]
    rw [e]
    have fin : ∀ c : ByteArray, c = clsP H v → strEq c ⟨#[70, 117, 110, 99, 116, 105, 111, 110]⟩ = decide (clsP H v = funcS) := by
      rintro c rfl
      by_cases hc : clsP H v = funcS
      · rw [(strEq_iff _ _).2 hc, decide_eq_true hc]
      · rw [(strEq_no _ _).2 hc, decide_eq_false hc]
    rcases k17 with k1 | k7
    · have q1 : (v.k == 1) = true := by rw [k1]; rfl
      refine gA ?_
      refine HCall.mk ((hclass_spec (r.ext x1) v hv.i g.few.len).mono ?_)
      rintro e h2 ⟨rfl, x2⟩
      have q := fin _ rfl
      by_cases hc : clsP H v = funcS
      · rw [decide_eq_true hc] at q
        rw [if_pos hc]
        refine gA ?_
        exact ⟨rfl, x1.trans x2⟩
      · rw [decide_eq_false hc] at q
        rw [if_neg hc]
        refine gA ?_
        exact ⟨rfl, x1.trans x2⟩
    · have q1 : (v.k == 1) = false := by rw [k7]; rfl
      have q7 : (v.k == 7) = true := by rw [k7]; rfl
      refine gA ?_
      refine HCall.mk ((hclass_spec (r.ext x1) v hv.i g.few.len).mono ?_)
      rintro e h2 ⟨rfl, x2⟩
      have q := fin _ rfl
      by_cases hc : clsP H v = funcS
      · rw [decide_eq_true hc] at q
        rw [if_pos hc]
        refine gA ?_
        exact ⟨rfl, x1.trans x2⟩
      · rw [decide_eq_false hc] at q
        rw [if_neg hc]
        refine gA ?_
        exact ⟨rfl, x1.trans x2⟩
  · have q1 : (v.k == 1) = false := beq_eq_false_iff_ne.2 (fun e => k17 (.inl e))
    have q7 : (v.k == 7) = false := beq_eq_false_iff_ne.2 (fun e => k17 (.inr e))
    have e : tyP H v = wUndef := by unfold tyP; rw [if_neg k2, if_neg k3, if_neg k4, if_neg k17]
    rw [e]
    refine gA ?_
    exact ⟨rfl, x1⟩
theorem otruthy_spec (v : VV) (h : Heap) : HCalls Tryz.prog 32 #[.agg (cellsV v).toArray] h fun e h' => e = .returned (.bool (truthP v)) ∧ Ext h h' := by
  refine c32 (by simp) ?_
  refine gA ?_
  refine new_var (e := 24) (cellsV v) rfl ?_
  intro h1 b3 o3 x1 z1 hb3
  refine gA ?_
  by_cases k7 : v.k = 7
  · have q7 : (v.k == 7) = true := by rw [k7]; rfl
    have e : truthP v = true := decide_eq_true (.inl k7)
    rw [e]
    refine gA ?_
    exact ⟨rfl, x1⟩
  have q7 : (v.k == 7) = false := beq_eq_false_iff_ne.2 k7
  by_cases hn : v.n = 0
  · have q2 : (v.n != 0) = false := by rw [hn]; rfl
    by_cases hs : v.s = noS
    · have q3 : (!strEq v.s ⟨#[]⟩) = false := by rw [(strEq_iff _ _).2 hs]; rfl
      have e : truthP v = false := decide_eq_false (by rintro (h | h | h) <;> first | exact k7 h | exact h hn | exact h hs)
      rw [e]
      refine gA ?_
      exact ⟨congrArg (fun b => Ending.returned (.bool b)) q3, x1⟩
    · have q3 : (!strEq v.s ⟨#[]⟩) = true := by rw [(strEq_no _ _).2 hs]; rfl
      have e : truthP v = true := decide_eq_true (.inr (.inr hs))
      rw [e]
      refine gA ?_
      exact ⟨congrArg (fun b => Ending.returned (.bool b)) q3, x1⟩
  · have q2 : (v.n != 0) = true := by simp [hn]
    have e : truthP v = true := decide_eq_true (.inr (.inl hn))
    rw [e]
    refine gA ?_
    exact ⟨rfl, x1⟩
set_option maxHeartbeats 16000000
def bV (a b : VV) (f : Field) : Bool := if f.offset = 0 then a.k == b.k else if f.offset = 1 then a.n == b.n else strEq a.s b.s
theorem vEq_and (a b : VV) : vEq a b = ((a.k == b.k) && ((a.n == b.n) && (strEq a.s b.s && true))) := by
  unfold vEq
  by_cases h1 : a.k = b.k
  · by_cases h2 : a.n = b.n
    · by_cases h3 : a.s = b.s
      · rw [decide_eq_true ⟨h1, h2, h3⟩, (strEq_iff _ _).2 h3, h1, h2]; simp
      · rw [decide_eq_false (fun h => h3 h.2.2), (strEq_no _ _).2 h3]; simp
    · have : (a.n == b.n) = false := beq_eq_false_iff_ne.2 h2
      rw [decide_eq_false (fun h => h2 h.2.1), this]; simp
  · have : (a.k == b.k) = false := beq_eq_false_iff_ne.2 h1
    rw [decide_eq_false (fun h => h1 h.1), this]; simp
theorem fieldsV {h : Heap} {E : Halt → Heap → Prop} {d : Nat} (a b : VV) : ∃ fs : Array Field, Tryz.prog.underlying 24 = some (.struct fs) ∧ (∀ f ∈ fs.toList, EqF Tryz.prog false (d + 1) h E (cellsV a).toArray (cellsV b).toArray (bV a b) f) ∧ fs.toList.all (bV a b) = vEq a b := by
  refine ⟨_, Tryz.underlying24, ?_, ?_⟩
  · intro f hf
    simp only [List.mem_cons, List.not_mem_nil, or_false] at hf
    rcases hf with rfl | rfl | rfl
    · exact EqF.int (by decide) Tryz.underlying3 (by kernel_rfl) rfl rfl rfl
    · exact EqF.int (by decide) Tryz.underlying2 (by kernel_rfl) rfl rfl rfl
    · exact EqF.str (by decide) Tryz.underlying9 (by kernel_rfl) rfl rfl rfl
  · rw [vEq_and]; rfl
theorem raw_eqV {ev : Operand → Value} {h : Heap} {K : Next → Heap → Prop} {E : Halt → Heap → Prop} {o : Oper} {u : TypeId} {x y : Operand} (a b : VV) (ho : o.op = .binOp .eql 24 x y u) (hx : ev x = .agg (cellsV a).toArray) (hy : ev y = .agg (cellsV b).toArray) (k : K (.value (.bool (vEq a b))) h) : HRaw Tryz.prog o ev h (noDefer K) E := by
  obtain ⟨fs, hu, hf, ha⟩ := fieldsV (h := h) (E := E) (d := 9998) a b
  exact raw_eqS (bV a b) ho hx hy hu (by kernel_rfl) (by kernel_rfl) hf (by rw [ha]; exact k)
theorem raw_neV {ev : Operand → Value} {h : Heap} {K : Next → Heap → Prop} {E : Halt → Heap → Prop} {o : Oper} {u : TypeId} {x y : Operand} (a b : VV) (ho : o.op = .binOp .neq 24 x y u) (hx : ev x = .agg (cellsV a).toArray) (hy : ev y = .agg (cellsV b).toArray) (k : K (.value (.bool (!vEq a b))) h) : HRaw Tryz.prog o ev h (noDefer K) E := by
  obtain ⟨fs, hu, hf, ha⟩ := fieldsV (h := h) (E := E) (d := 9998) a b
  exact raw_neS (bV a b) ho hx hy hu (by kernel_rfl) (by kernel_rfl) hf (by rw [ha]; exact k)
theorem cmpB_eq : ∀ (a b : List UInt8), Lib.compareBytes a b = if Op.bytesLess a b = true then -1 else if a = b then 0 else 1
  | [], [] => rfl
  | [], _ :: _ => rfl
  | _ :: _, [] => rfl
  | x :: a, y :: b => by
    unfold Lib.compareBytes Op.bytesLess
    by_cases h1 : x < y
    · simp [h1]
    · by_cases h2 : y < x
      · have : x ≠ y := by rintro rfl; exact h1 h2
        simp [h1, h2, this]
      · have : x = y := by
          have h1' : ¬ x.toNat < y.toNat := h1
          have h2' : ¬ y.toNat < x.toNat := h2
          exact UInt8.toNat_inj.1 (by omega)
        subst this
        simp [h1, cmpB_eq a b]
theorem cmpS_eq (a b : ByteArray) : Extern.BytealgCompare.cmp a b = cmpS a b := by
  rw [Lib.cmp_eq, cmpB_eq]
  unfold cmpS strLt
  rw [Go.Lib.toList_data, Go.Lib.toList_data]
  have e : a.data.toList = b.data.toList ↔ a = b := ⟨fun h => ByteArray.ext (Array.ext' h), fun h => by rw [h]⟩
  split
  · rfl
  · by_cases h : a = b
    · rw [if_pos (e.2 h), if_pos h]
    · rw [if_neg (fun h2 => h (e.1 h2)), if_neg h]
theorem scmp_spec (a b : ByteArray) (h : Heap) : HCalls Tryz.prog 95 #[.string a, .string b] h fun e h' => e = .returned (.int .i64 (cmpS a b)) ∧ h' = h := by
  refine c95 (by simp) ?_
  refine gA ?_
  refine HCall.mk ?_
  refine c137 (by simp) ?_
  refine gA ?_
  refine raw_extern (fn := Tryz.f156) (g := Extern.BytealgCompare.compare) (v := .int .i64 (Extern.BytealgCompare.cmp a b)) rfl rfl Tryz.func156 (by kernel_rfl) (by kernel_rfl) (by kernel_rfl) (by kernel_rfl) rfl ?_
  rw [cmpS_eq]
  refine gA ?_
  exact ⟨rfl, rfl⟩
theorem isnan_spec (n : Int) (h : Heap) : HCalls Tryz.prog 138 #[.int .i64 n] h fun e h' => e = .returned (.bool false) ∧ h' = h := by
  refine c138 (by simp) ?_
  have q : (n != n) = false := by simp
  refine gA ?_
  exact ⟨by show Ending.returned (.bool (n != n)) = _; rw [q], rfl⟩
theorem icmp_spec (n m : Int) (h : Heap) : HCalls Tryz.prog 96 #[.int .i64 n, .int .i64 m] h fun e h' => e = .returned (.int .i64 (cmpI n m)) ∧ h' = h := by
  refine c96 (by simp) ?_
  refine gA ?_
  refine HCall.mk ((isnan_spec n h).mono ?_)
  rintro e h1 ⟨rfl, rfl⟩
  refine gA ?_
  refine HCall.mk ((isnan_spec m h1).mono ?_)
  rintro e h2 ⟨rfl, rfl⟩
  unfold cmpI
  by_cases h1 : n < m
  · have q : decide (n < m) = true := decide_eq_true h1
    rw [if_pos h1]
    refine gA ?_
    exact ⟨rfl, rfl⟩
  · have q : decide (n < m) = false := decide_eq_false h1
    rw [if_neg h1]
    by_cases h2 : n = m
    · have q2 : decide (n > m) = false := decide_eq_false (by omega)
      rw [if_pos h2]
      refine gA ?_
      exact ⟨rfl, rfl⟩
    · have q2 : decide (n > m) = true := decide_eq_true (by omega)
      rw [if_neg h2]
      refine gA ?_
      exact ⟨rfl, rfl⟩
theorem found_spec (o : Option Int) (h : Heap) : HCalls Tryz.prog 50 #[.int .i64 (numA o).1, .int .i64 (numA o).2] h fun e h' => e = .returned (resR (foundR o)) ∧ Ext h h' := by
  cases o with
  | none =>
    refine c50 (by simp) ?_
    refine gA ?_
    refine new_var (e := 24) [.int .i64 0, .int .i64 0, .string ⟨#[]⟩] rfl ?_
    intro h1 b4 o4 x1 z1 hb4
    refine gA ?_
    refine store_blk o4 (by simp) (by simp [isOne]) ?_
    intro hr fr zr orr
    replace orr : BlkW hr b4 24 (cellsV undefV) := by simpa using orr
    refine gA ?_
    exact ⟨rfl, x1.offNew fr (by omega)⟩
  | some n =>
    show HCalls Tryz.prog 50 #[.int .i64 n, .int .i64 0] h _
    refine c50 (by simp) ?_
    refine gA ?_
    refine new_var (e := 24) [.int .i64 0, .int .i64 0, .string ⟨#[]⟩] rfl ?_
    intro h1 b4 o4 x1 z1 hb4
    refine gA ?_
    refine store_blk o4 (by simp) (by simp [isOne]) ?_
    intro hr fr zr orr
    replace orr : BlkW hr b4 24 (cellsV (numV n)) := by simpa using orr
    refine gA ?_
    exact ⟨rfl, x1.offNew fr (by omega)⟩
theorem ostr_spec (u : ByteArray) (h : Heap) : HCalls Tryz.prog 62 #[.string u] h fun e h' => e = .returned (.agg (cellsV (strV u)).toArray) ∧ Ext h h' := by
  refine c62 (by simp) ?_
  refine gA ?_
  refine new_var (e := 24) [.int .i64 0, .int .i64 0, .string ⟨#[]⟩] rfl ?_
  intro h1 b4 o4 x1 z1 hb4
  refine gA ?_
  refine store_blk o4 (by simp) (by simp [isOne]) ?_
  intro hr fr zr orr
  replace orr : BlkW hr b4 24 (cellsV (strV u)) := by simpa using orr
  refine gA ?_
  exact ⟨rfl, x1.offNew fr (by omega)⟩
theorem otruth_spec (b : Bool) (h : Heap) : HCalls Tryz.prog 53 #[.bool b] h fun e h' => e = .returned (.agg (cellsV (boolV b)).toArray) ∧ Ext h h' := by
  refine c53 (by simp) ?_
  refine gA ?_
  refine new_var (e := 24) [.int .i64 0, .int .i64 0, .string ⟨#[]⟩] rfl ?_
  intro h1 b2 o2 x1 z1 hb2
  refine gA ?_
  refine new_var (e := 24) [.int .i64 0, .int .i64 0, .string ⟨#[]⟩] rfl ?_
  intro h2 b3 o3 x2 z2 hb3
  have o2 := o2.ext x2
  have l2 := o2.lt
  refine gA ?_
  refine store_blk o3 (by simp) (by simp [isOne]) ?_
  intro h3 f3 z3 o3
  replace o3 : BlkW h3 b3 24 [.int .i64 2, .int .i64 0, .string ⟨#[]⟩] := by simpa using o3
  have o2 := o2.offk f3 (by omega)
  have x03 := (x1.trans x2).offNew f3 (by omega)
  cases b with
  | false =>
    refine gA ?_
    refine store_blk o2 (by simp) (by simp [isOne]) ?_
    intro hr fr zr orr
    replace orr : BlkW hr b2 24 [.int .i64 2, .int .i64 0, .string ⟨#[]⟩] := by simpa using orr
    refine gA ?_
    exact ⟨rfl, x03.offNew fr (by omega)⟩
  | true =>
    refine gA ?_
    refine store1_blk (o := 1) o3 (by simp) rfl ?_
    intro h4 f4 z4 o34
    replace o34 : BlkW h4 b3 24 [.int .i64 2, .int .i64 1, .string ⟨#[]⟩] := o34
    replace f4 : Off b3 h3 h4 := f4
    have o2 := o2.offk f4 (by omega)
    refine gA ?_
    refine store_blk o2 (by simp) (by simp [isOne]) ?_
    intro hr fr zr orr
    replace orr : BlkW hr b2 24 [.int .i64 2, .int .i64 1, .string ⟨#[]⟩] := by simpa using orr
    refine gA ?_
    exact ⟨rfl, (x03.offNew f4 (by omega)).offNew fr (by omega)⟩
set_option maxHeartbeats 16000000
theorem vok_str {u : ByteArray} (h : TxtOk u) : VOk (strV u) := ⟨⟨by show (0 : Int) ≤ 4; decide, by show (4 : Int) ≤ 7; decide⟩, ⟨by show (-9007199254740991 : Int) ≤ 0; decide, by show (0 : Int) ≤ 9007199254740991; decide⟩, h.1, h.2, fun h => absurd rfl h, fun _ _ _ => rfl, fun h => by cases h⟩
theorem plain_ok {H : PH} (g : Good H) (cl : ClsOk H) {v x : VV} (hv : VOk v) (e : plainP H v = some x) : VOk x := by
  unfold plainP at e
  split at e
  · cases ht : textT H v with
    | none => rw [ht] at e; cases e
    | some u => rw [ht] at e; cases e; exact vok_str (text_ok g cl 20 v hv u ht)
  · cases e; exact hv
def Off2 (a b : Nat) (h h' : Heap) : Prop := h.size ≤ h'.size ∧ ∀ x, x < h.size → x ≠ a → x ≠ b → h'[x]? = h[x]?
theorem simple_spec {bh b4 b5 bs : Nat} {H : PH} {Z : HZ} (g : Good H) (cl : ClsOk H) (a b : VV) (ha : VOk a) (hb : VOk b) (h : Heap) (tab : Tab h) (r : HeapR h bh H Z)
    (o4 : BlkW h b4 24 (cellsV a)) (o5 : BlkW h b5 24 (cellsV b)) (sl : BlkW h bs 91 [.pointer (some ⟨b4, 0, none⟩), .pointer (some ⟨b5, 0, none⟩)])
    (n4 : b4 ∉ Z.bs bh) (n5 : b5 ∉ Z.bs bh) (h45 : b4 ≠ b5) (h4s : b4 ≠ bs) (h5s : b5 ≠ bs) (tb4 : ∀ h', Off2 b4 b5 h h' → Tab h') :
    HCalls Tryz.prog 58 #[.pointer (some ⟨bh, 0, none⟩), .slice (some ⟨bs, 0, none⟩) 2 2] h fun e h' => Off2 b4 b5 h h' ∧
      ((e = .returned (.int .i64 100) ∧ (plainP H a = none ∨ plainP H b = none)) ∨ (∃ x y, e = .returned (.int .i64 0) ∧ plainP H a = some x ∧ plainP H b = some y ∧ BlkW h' b4 24 (cellsV x) ∧ BlkW h' b5 24 (cellsV y))) := by
  refine c58 (by simp) ?_
  have l4 := o4.lt
  have l5 := o5.lt
  have ls := sl.lt
  have rr : ∀ h', Off2 b4 b5 h h' → HeapR h' bh H Z := fun h' F => r.same fun x hx => F.2 x (r.lt x hx) (fun e => n4 (e ▸ hx)) (fun e => n5 (e ▸ hx))
  refine gA ?_
  refine loop_rule [11] (fun us h' => ∃ (k : Nat) (x y : VV), us = [.int .i64 k] ∧ k ≤ 2 ∧ BlkW h' b4 24 (cellsV x) ∧ BlkW h' b5 24 (cellsV y) ∧ (k = 0 → x = a) ∧ (1 ≤ k → plainP H a = some x) ∧ (k ≤ 1 → y = b) ∧ (k = 2 → plainP H b = some y) ∧ Off2 b4 b5 h h') (fun us _ => match us with | [.int _ k] => 2 - k.toNat | _ => 0) rfl ?_ ?_
  · exact ⟨0, a, b, rfl, by omega, o4, o5, fun _ => rfl, fun h => by omega, fun _ => rfl, fun h => by omega, Nat.le_refl _, fun _ _ _ _ => rfl⟩
  intro u h1 v11
  rintro ⟨k, x, y, e, hk, ox, oy, ka, kA, kb, kB, F⟩
  cases e
  have sl1 : BlkW h1 bs 91 [.pointer (some ⟨b4, 0, none⟩), .pointer (some ⟨b5, 0, none⟩)] := sl.of (F.2 bs ls (Ne.symm h4s) (Ne.symm h5s))
  have r1 := rr _ F
  have t1 := tb4 _ F
  refine gA ?_
  refine HIf.mk (fun hlt => ?_) (fun hlt => ?_)
  · have hk2 : k < 2 := by have := of_decide_eq_true hlt; omega
    have hmu : 2 - ((k : Int) + 1).toNat < 2 - ((k : Int)).toNat := by omega
    obtain ⟨bk, z, ek, oz, hz, hkk⟩ : ∃ (bk : Nat) (z : VV), ([.pointer (some ⟨b4, 0, none⟩), .pointer (some ⟨b5, 0, none⟩)] : List Value)[k]? = some (.pointer (some ⟨bk, 0, none⟩)) ∧ BlkW h1 bk 24 (cellsV z) ∧ VOk z ∧ ((k = 0 ∧ bk = b4 ∧ z = a) ∨ (k = 1 ∧ bk = b5 ∧ z = b)) := by
      rcases (show k = 0 ∨ k = 1 by omega) with rfl | rfl
      · exact ⟨b4, a, rfl, by rw [← ka rfl]; exact ox, ha, .inl ⟨rfl, rfl, rfl⟩⟩
      · exact ⟨b5, b, rfl, by rw [← kb (by omega)]; exact oy, hb, .inr ⟨rfl, rfl, rfl⟩⟩
    refine gA ?_
    refine HIdx.mk k rfl hk2 ?_
    refine gA ?_
    refine sl_some sl1.sl hk2 fun p ep => ?_
    refine gA ?_
    have ek' : ∀ hk', ([.pointer (some ⟨b4, 0, none⟩), .pointer (some ⟨b5, 0, none⟩)] : List Value)[k]'hk' = .pointer (some ⟨bk, 0, none⟩) := fun hk' => by
      have := List.getElem?_eq_getElem hk'
      rw [this] at ek
      exact Option.some.inj ek
    refine Sl.load sl1.sl ep (by simpa using hk2) ?_
    rw [ek']
    refine gA ?_
    have nextR : ∀ (h' : Heap) (w : VV), Off2 b4 b5 h h' → BlkW h' bk 24 (cellsV w) → (∀ q, q ≠ bk → q < h1.size → h'[q]? = h1[q]?) → plainP H z = some w →
        ∃ (k' : Nat) (x y : VV), (.int .i64 ((k : Int) + 1) : Value) = .int .i64 k' ∧ k' ≤ 2 ∧ BlkW h' b4 24 (cellsV x) ∧ BlkW h' b5 24 (cellsV y) ∧ (k' = 0 → x = a) ∧ (1 ≤ k' → plainP H a = some x) ∧ (k' ≤ 1 → y = b) ∧ (k' = 2 → plainP H b = some y) ∧ Off2 b4 b5 h h' := by
      intro h' w F' ow kq ep
      rcases hkk with ⟨rfl, rfl, rfl⟩ | ⟨rfl, rfl, rfl⟩
      · exact ⟨1, w, y, rfl, by omega, ow, oy.of (kq b5 (Ne.symm h45) oy.lt), fun h => by omega, fun _ => ep, fun _ => kb (by omega), fun h => by omega, F'⟩
      · exact ⟨2, x, w, rfl, by omega, ox.of (kq b4 h45 ox.lt), ow, fun h => by omega, fun _ => kA (by omega), fun h => by omega, fun _ => ep, F'⟩
    by_cases k7 : z.k = 7
    · have q1 : (z.k != 7) = false := by rw [k7]; rfl
      refine gA ?_
      refine HCall.mk ((otext_spec g cl z h1 t1 hz r1).mono ?_)
      rintro e h2 ⟨rfl, x2⟩
      have F2 : Off2 b4 b5 h h2 := ⟨Nat.le_trans F.1 x2.1, fun q hq h1' h2' => by rw [x2.2 q (by have := F.1; omega), F.2 q hq h1' h2']⟩
      cases ht : textT H z with
      | none =>
        have ep : plainP H z = none := by unfold plainP; rw [if_pos k7, ht]; rfl
        refine gA ?_
        refine ⟨F2, .inl ⟨rfl, ?_⟩⟩
        rcases hkk with ⟨rfl, rfl, rfl⟩ | ⟨rfl, rfl, rfl⟩
        · exact .inl ep
        · exact .inr ep
      | some w =>
        have ep : plainP H z = some (strV w) := by unfold plainP; rw [if_pos k7, ht]; rfl
        refine gA ?_
        refine HCall.mk ((ostr_spec w h2).mono ?_)
        rintro e h3 ⟨rfl, x3⟩
        have oz3 := (oz.ext x2).ext x3
        refine gA ?_
        refine store_blk oz3 (by simp) (by simp [isOne]) ?_
        intro h4 f4 z4 o4'
        replace o4' : BlkW h4 bk 24 (cellsV (strV w)) := by simpa using o4'
        have F4 : Off2 b4 b5 h h4 := ⟨by have := F2.1; have := x3.1; have := f4.1; omega, fun q hq h1' h2' => by
          rw [f4.2 q (by have := F2.1; have := x3.1; omega) (by rcases hkk with ⟨_, rfl, _⟩ | ⟨_, rfl, _⟩ <;> assumption), x3.2 q (by have := F2.1; omega), F2.2 q hq h1' h2']⟩
        obtain ⟨k', x', y', e', rest⟩ := nextR h4 (strV w) F4 o4' (fun q hq hl => by rw [f4.2 q (by have := x2.1; have := x3.1; omega) hq, x3.2 q (by have := x2.1; omega), x2.2 q hl]) ep
        refine gA ?_
        exact ⟨⟨k', x', y', by rw [← e']; rfl, rest⟩, hmu⟩
    · have q1 : (z.k != 7) = true := by simp [k7]
      have ep : plainP H z = some z := by unfold plainP; rw [if_neg k7]
      obtain ⟨k', x', y', e', rest⟩ := nextR h1 z F oz (fun _ _ _ => rfl) ep
      refine gA ?_
      exact ⟨⟨k', x', y', by rw [← e']; rfl, rest⟩, hmu⟩
  · have hge := of_decide_eq_false hlt
    obtain rfl : k = 2 := by omega
    refine gA ?_
    exact ⟨F, .inr ⟨x, y, rfl, kA (by omega), kB rfl, ox, oy⟩⟩
def numsR (o : Option (Int × Int)) (e : Ending) : Prop := match o with
  | none => ∃ n m : Int, e = .returned (.tuple #[.int .i64 n, .int .i64 m, .int .i64 100])
  | some p => e = .returned (.tuple #[.int .i64 p.1, .int .i64 p.2, .int .i64 0])
theorem numbers_spec {bh : Nat} {H : PH} {Z : HZ} (g : Good H) (cl : ClsOk H) (a b : VV) (ha : VOk a) (hb : VOk b) (h : Heap) (gl : Glob h) (r : HeapR h bh H Z) :
    HCalls Tryz.prog 49 #[.pointer (some ⟨bh, 0, none⟩), .agg (cellsV a).toArray, .agg (cellsV b).toArray] h fun e h' => numsR (numsP H a b) e ∧ Ext h h' := by
  refine c49 (by simp) ?_
  refine gA ?_
  refine new_var (e := 24) (cellsV a) rfl ?_
  intro h1 b4 o4 x1 z1 hb4
  refine gA ?_
  refine new_var (e := 24) (cellsV b) rfl ?_
  intro h2 b5 o5 x2 z2 hb5
  have o4 := o4.ext x2
  have x02 := x1.trans x2
  refine gA ?_
  refine HCall.mk ((onumber_spec g cl a h2 (gl.ext x02) ha (r.ext x02)).mono ?_)
  rintro e h3 ⟨rfl, x3⟩
  have o5 := o5.ext x3
  have x03 := x02.trans x3
  unfold numsP
  cases hn : numP H a with
  | none =>
    refine gA ?_
    exact ⟨⟨_, _, rfl⟩, x03⟩
  | some n =>
    refine gA ?_
    refine HCall.mk ((onumber_spec g cl b h3 (gl.ext x03) hb (r.ext x03)).mono ?_)
    rintro e h4 ⟨rfl, x4⟩
    cases hm : numP H b with
    | none =>
      refine gA ?_
      exact ⟨⟨_, _, rfl⟩, x03.trans x4⟩
    | some m =>
      refine gA ?_
      exact ⟨rfl, x03.trans x4⟩
def reckF (op : ByteArray) : Int → Int → Option Int := if op = oAdd then nAdd else if op = oSub then nSub else if op = oMul then nMul else if op = oDiv then nDiv else nMod
theorem reckon_spec (op : ByteArray) (n m : Int) (h : Heap) : HCalls Tryz.prog 51 #[.string op, .int .i64 n, .int .i64 m] h fun e h' => e = .returned (numR (reckF op n m)) ∧ h' = h := by
  refine c51 (by simp) ?_
  unfold reckF
  by_cases h1 : op = oAdd
  · have q : strEq op ⟨#[43]⟩ = true := (strEq_iff _ _).2 h1
    rw [if_pos h1]
    refine gA ?_
    refine HCall.mk ((add_spec n m h).mono ?_)
    rintro e h1 ⟨rfl, rfl⟩
    cases nAdd n m
    all_goals
      refine gA ?_
      exact ⟨rfl, rfl⟩
  have q : strEq op ⟨#[43]⟩ = false := (strEq_no _ _).2 h1
  rw [if_neg h1]
  by_cases h2 : op = oSub
  · have q2 : strEq op ⟨#[45]⟩ = true := (strEq_iff _ _).2 h2
    rw [if_pos h2]
    refine gA ?_
    refine HCall.mk ((sub_spec n m h).mono ?_)
    rintro e h1 ⟨rfl, rfl⟩
    cases nSub n m
    all_goals
      refine gA ?_
      exact ⟨rfl, rfl⟩
  have q2 : strEq op ⟨#[45]⟩ = false := (strEq_no _ _).2 h2
  rw [if_neg h2]
  by_cases h3 : op = oMul
  · have q3 : strEq op ⟨#[42]⟩ = true := (strEq_iff _ _).2 h3
    rw [if_pos h3]
    refine gA ?_
    refine HCall.mk ((mul_spec n m h).mono ?_)
    rintro e h1 ⟨rfl, rfl⟩
    cases nMul n m
    all_goals
      refine gA ?_
      exact ⟨rfl, rfl⟩
  have q3 : strEq op ⟨#[42]⟩ = false := (strEq_no _ _).2 h3
  rw [if_neg h3]
  by_cases h4 : op = oDiv
  · have q4 : strEq op ⟨#[47]⟩ = true := (strEq_iff _ _).2 h4
    rw [if_pos h4]
    refine gA ?_
    refine HCall.mk ((div_spec n m h).mono ?_)
    rintro e h1 ⟨rfl, rfl⟩
    cases nDiv n m
    all_goals
      refine gA ?_
      exact ⟨rfl, rfl⟩
  have q4 : strEq op ⟨#[47]⟩ = false := (strEq_no _ _).2 h4
  rw [if_neg h4]
  refine gA ?_
  refine HCall.mk ((mod_spec n m h).mono ?_)
  rintro e h1 ⟨rfl, rfl⟩
  cases nMod n m
  all_goals
    refine gA ?_
    exact ⟨rfl, rfl⟩
theorem join_spec {bh : Nat} {H : PH} {Z : HZ} (g : Good H) (cl : ClsOk H) (a b : VV) (ha : VOk a) (hb : VOk b) (h : Heap) (tab : Tab h) (r : HeapR h bh H Z) :
    HCalls Tryz.prog 48 #[.pointer (some ⟨bh, 0, none⟩), .agg (cellsV a).toArray, .agg (cellsV b).toArray] h fun e h' => e = .returned (resR (joinR H a b)) ∧ Ext h h' := by
  refine c48 (by simp) ?_
  refine gA ?_
  refine new_var (e := 24) (cellsV a) rfl ?_
  intro h1 b4 o4 x1 z1 hb4
  refine gA ?_
  refine new_var (e := 24) (cellsV b) rfl ?_
  intro h2 b5 o5 x2 z2 hb5
  have o4 := o4.ext x2
  have x02 := x1.trans x2
  refine gA ?_
  refine new_var (e := 24) [.int .i64 0, .int .i64 0, .string ⟨#[]⟩] rfl ?_
  intro h3 b6 o6 x3 z3 hb6
  have o4 := o4.ext x3
  have o5 := o5.ext x3
  have x03 := x02.trans x3
  have hx2 := x02.1
  refine gA ?_
  refine HCall.mk ((otext_spec g cl a h3 (tab.ext x03) ha (r.ext x03)).mono ?_)
  rintro e h4 ⟨rfl, x4⟩
  have o5 := o5.ext x4
  have o6 := o6.ext x4
  have x04 := x03.trans x4
  cases hs : textT H a with
  | none =>
    have ej : joinR H a b = badR := by unfold joinR; rw [hs]
    rw [ej]
    refine gA ?_
    refine store_blk o6 (by simp) (by simp [isOne]) ?_
    intro hr fr zr orr
    replace orr : BlkW hr b6 24 (cellsV undefV) := by simpa using orr
    refine gA ?_
    exact ⟨rfl, x04.offNew fr (by omega)⟩
  | some s =>
    refine gA ?_
    refine HCall.mk ((otext_spec g cl b h4 (tab.ext x04) hb (r.ext x04)).mono ?_)
    rintro e h5 ⟨rfl, x5⟩
    have o6 := o6.ext x5
    have x05 := x04.trans x5
    have os := text_ok g cl 20 a ha s hs
    cases ht : textT H b with
    | none =>
      have ej : joinR H a b = badR := by unfold joinR; rw [hs, ht]
      rw [ej]
      refine gA ?_
      refine HMust.mk (by show s.size + noS.size ≤ _; have := os.1; have : noS.size = 0 := rfl; omega) ?_
      refine gA ?_
      refine HCall.mk ((limitedE_spec (s ++ noS) 100 (by decide) h5).mono ?_)
      rintro e h6 ⟨rfl, rfl⟩
      refine gA ?_
      refine store_blk o6 (by simp) (by simp [isOne]) ?_
      intro hr fr zr orr
      replace orr : BlkW hr b6 24 (cellsV undefV) := by simpa using orr
      refine gA ?_
      exact ⟨rfl, x05.offNew fr (by omega)⟩
    | some t =>
      have ot := text_ok g cl 20 b hb t ht
      refine gA ?_
      refine HMust.mk (by have := os.1; have := ot.1; omega) ?_
      refine gA ?_
      refine HCall.mk ((limited_spec (s ++ t) (by rw [app_size]; have := os.2; have := ot.2; omega) (by rw [app_size]; have := os.1; have := ot.1; omega) h5).mono ?_)
      rintro e h6 ⟨rfl, rfl⟩
      cases hl : limP (s ++ t) with
      | none =>
        have ej : joinR H a b = badR := by unfold joinR; rw [hs, ht]; simp only []; rw [hl]
        rw [ej]
        refine gA ?_
        refine store_blk o6 (by simp) (by simp [isOne]) ?_
        intro hr fr zr orr
        replace orr : BlkW hr b6 24 (cellsV undefV) := by simpa using orr
        refine gA ?_
        exact ⟨rfl, x05.offNew fr (by omega)⟩
      | some w =>
        have ej : joinR H a b = (strV w, 0) := by unfold joinR; rw [hs, ht]; simp only []; rw [hl]
        rw [ej]
        refine gA ?_
        refine HCall.mk ((ostr_spec w h6).mono ?_)
        rintro e h7 ⟨rfl, x7⟩
        have o6 := o6.ext x7
        refine gA ?_
        refine store_blk o6 (by simp) (by simp [isOne]) ?_
        intro hr fr zr orr
        replace orr : BlkW hr b6 24 (cellsV (strV w)) := by simpa using orr
        refine gA ?_
        exact ⟨rfl, (x05.trans x7).offNew fr (by omega)⟩
set_option maxHeartbeats 16000000
theorem strict_spec (a b : VV) (h : Heap) : HCalls Tryz.prog 17 #[.agg (cellsV a).toArray, .agg (cellsV b).toArray] h fun e h' => e = .returned (.bool (vEq a b)) ∧ Ext h h' := by
  refine c17 (by simp) ?_
  refine gA ?_
  refine new_var (e := 24) (cellsV a) rfl ?_
  intro h1 b2 o2 x1 z1 hb2
  refine gA ?_
  refine new_var (e := 24) (cellsV b) rfl ?_
  intro h2 b3 o3 x2 z2 hb3
  have o2 := o2.ext x2
  refine gA ?_
  refine raw_eqV a b rfl rfl rfl ?_
  refine gA ?_
  exact ⟨rfl, x1.trans x2⟩
def lsR : Option Bool → Value
  | none => .tuple #[.bool false, .int .i64 100]
  | some c => .tuple #[.bool c, .int .i64 0]
def numEq (H : PH) (x y : VV) : Bool := match numP H x, numP H y with
  | some n, some m => decide (n = m)
  | _, _ => false
theorem looseP_same {H : PH} {a b : VV} (h : a.k = b.k) : looseP H a b = some (vEq a b) := by unfold looseP; rw [if_pos h]
theorem looseP_null {H : PH} {a b : VV} (h : a.k ≠ b.k) (h1 : a.k ≤ 1 ∨ b.k ≤ 1) : looseP H a b = some (decide (a.k ≤ 1 ∧ b.k ≤ 1)) := by unfold looseP; rw [if_neg h, if_pos h1]
theorem looseP_go {H : PH} {a b : VV} (h : a.k ≠ b.k) (h1 : ¬ (a.k ≤ 1 ∨ b.k ≤ 1)) : looseP H a b = match plainP H a, plainP H b with
    | some x, some y => looseQ H x y
    | _, _ => none := by unfold looseP; rw [if_neg h, if_neg h1]; rfl
theorem looseQ_same {H : PH} {a b : VV} (h : a.k = b.k) : looseQ H a b = some (vEq a b) := by unfold looseQ; rw [if_pos h]
theorem looseQ_num {H : PH} {a b : VV} (h : a.k ≠ b.k) (h1 : ¬ (a.k ≤ 1 ∨ b.k ≤ 1)) : looseQ H a b = some (numEq H a b) := by unfold looseQ; rw [if_neg h, if_neg h1]; rfl
theorem plainP_no {H : PH} {a : VV} (h : a.k ≠ 7) : plainP H a = some a := by unfold plainP; rw [if_neg h]
theorem plainP_kind {H : PH} {a x : VV} (h : plainP H a = some x) : (a.k = 7 ∧ x.k = 4) ∨ (a.k ≠ 7 ∧ x = a) := by
  unfold plainP at h
  split at h
  · rename_i h7
    cases ht : textT H a with
    | none => rw [ht] at h; cases h
    | some u => rw [ht] at h; cases h; exact .inl ⟨h7, rfl⟩
  · rename_i h7; cases h; exact .inr ⟨h7, rfl⟩
theorem oloose_spec {bh : Nat} {H : PH} {Z : HZ} (g : Good H) (cl : ClsOk H) (a b : VV) (ha : VOk a) (hb : VOk b) (h : Heap) (gl : Glob h) (r : HeapR h bh H Z) :
    HCalls Tryz.prog 15 #[.pointer (some ⟨bh, 0, none⟩), .agg (cellsV a).toArray, .agg (cellsV b).toArray] h fun e h' => e = .returned (lsR (looseP H a b)) ∧ Ext h h' := by
  refine c15 (by simp) ?_
  refine gA ?_
  refine new_var (e := 24) (cellsV a) rfl ?_
  intro h1 b4 o4 x1 z1 hb4
  refine gA ?_
  refine new_var (e := 24) (cellsV b) rfl ?_
  intro h2 b5 o5 x2 z2 hb5
  replace o4 := o4.ext x2
  have x02 := x1.trans x2
  have hx1 := x1.1
  have l4 := o4.lt
  have l5 := o5.lt
  refine gA ?_
  refine loop_ghost [] (fun (w : Nat × VV × VV) us h' => us = [] ∧ BlkW h' b4 24 (cellsV w.2.1) ∧ BlkW h' b5 24 (cellsV w.2.2) ∧ Ext h h' ∧ h2.size ≤ h'.size ∧ VOk w.2.1 ∧ VOk w.2.2 ∧
    ((w.1 = 1 ∧ w.2.1 = a ∧ w.2.2 = b) ∨ (w.1 = 0 ∧ looseP H a b = looseQ H w.2.1 w.2.2 ∧ w.2.1.k ≠ 7 ∧ w.2.2.k ≠ 7 ∧ ¬ (w.2.1.k ≤ 1 ∨ w.2.2.k ≤ 1)))) (fun w => w.1) rfl ?_ ?_
  · exact ⟨⟨1, a, b⟩, rfl, o4, o5, x02, Nat.le_refl _, ha, hb, .inl ⟨rfl, rfl, rfl⟩⟩
  clear o4 o5
  rintro ⟨ph, x, y⟩ u h3 ⟨_, o4, o5, x03, hz3, hx, hy, hph⟩
  simp only at o4 o5 hx hy hph
  have r3 := r.ext x03
  have g3 := gl.ext x03
  refine gA ?_
  by_cases hk : x.k = y.k
  · have q1 : (x.k != y.k) = false := by rw [hk]; simp
    have el : looseP H a b = some (vEq x y) := by
      rcases hph with ⟨_, rfl, rfl⟩ | ⟨_, e, _⟩
      · exact looseP_same hk
      · rw [e]; exact looseQ_same hk
    rw [el]
    refine gA ?_
    refine raw_eqV x y rfl rfl rfl ?_
    refine gA ?_
    exact ⟨rfl, x03⟩
  have q1 : (x.k != y.k) = true := by simp [hk]
  refine gA ?_
  by_cases hn : x.k ≤ 1 ∨ y.k ≤ 1
  · have el : looseP H a b = some (decide (x.k ≤ 1 ∧ y.k ≤ 1)) := by
      rcases hph with ⟨_, rfl, rfl⟩ | ⟨_, _, _, _, e⟩
      · exact looseP_null hk hn
      · exact absurd hn e
    rw [el]
    have em : decide ((if y.k > x.k then y.k else x.k) ≤ 1) = decide (x.k ≤ 1 ∧ y.k ≤ 1) := by
      apply decide_eq_decide.2
      split <;> constructor <;> intro h <;> omega
    by_cases hn1 : x.k ≤ 1
    · have q2 : decide (x.k ≤ 1) = true := decide_eq_true hn1
      refine gA ?_
      exact ⟨by rw [← em]; rfl, x03⟩
    · have q2 : decide (x.k ≤ 1) = false := decide_eq_false hn1
      have q3 : decide (y.k ≤ 1) = true := decide_eq_true (by omega)
      refine gA ?_
      exact ⟨by rw [← em]; rfl, x03⟩
  have q2 : decide (x.k ≤ 1) = false := decide_eq_false (fun e => hn (.inl e))
  have q3 : decide (y.k ≤ 1) = false := decide_eq_false (fun e => hn (.inr e))
  refine gA ?_
  by_cases h7 : x.k = 7 ∨ y.k = 7
  · have hp1 : ph = 1 ∧ x = a ∧ y = b := by
      rcases hph with e | ⟨_, _, e1, e2, _⟩
      · exact e
      · rcases h7 with e | e
        · exact absurd e e1
        · exact absurd e e2
    obtain ⟨rfl, rfl, rfl⟩ := hp1
    have el := looseP_go hk hn (H := H)
    rw [el]
    have body : ∀ (h4 : Heap) (bs : Nat), BlkW h4 bs 91 [.pointer (some ⟨b4, 0, none⟩), .pointer (some ⟨b5, 0, none⟩)] → Ext h3 h4 → bs = h3.size → BlkW h4 b4 24 (cellsV x) → BlkW h4 b5 24 (cellsV y) → HCalls Tryz.prog 58 #[.pointer (some ⟨bh, 0, none⟩), .slice (some ⟨bs, 0, none⟩) 2 2] h4 fun e h' => Ext h h' ∧ h2.size ≤ h'.size ∧
        ((e = .returned (.int .i64 100) ∧ (plainP H x = none ∨ plainP H y = none)) ∨ (∃ u v, e = .returned (.int .i64 0) ∧ plainP H x = some u ∧ plainP H y = some v ∧ BlkW h' b4 24 (cellsV u) ∧ BlkW h' b5 24 (cellsV v))) := by
      intro h4 bs sl x4 hbs p4 p5
      have x04 := x03.trans x4
      have e2 : ∀ h', Off2 b4 b5 h4 h' → Ext h h' := fun h' F => ⟨by have := x04.1; have := F.1; omega, fun q hq => by rw [F.2 q (by have := x04.1; omega) (by omega) (by omega), x04.2 q hq]⟩
      refine (simple_spec g cl x y hx hy h4 (gl.1.ext x04) (r.ext x04) p4 p5 sl (fun hm => by have := r.lt _ hm; omega) (fun hm => by have := r.lt _ hm; omega) (by omega) (by omega) (by omega) (fun h' F => gl.1.ext (e2 h' F))).mono ?_
      rintro e h' ⟨F, rest⟩
      exact ⟨e2 h' F, by have := F.1; have := x4.1; omega, rest⟩
    have step : ∀ {Q : Ending → Heap → Prop}, True := trivial
    rcases (show x.k = 7 ∨ (x.k ≠ 7 ∧ y.k = 7) by omega) with k7 | ⟨k7', k7⟩
    · have q4 : (x.k == 7) = true := by rw [k7]; rfl
      refine gA ?_
      refine new_var (e := 91) [.pointer (some ⟨b4, 0, none⟩), .pointer (some ⟨b5, 0, none⟩)] rfl ?_
      intro h4 bs sl x4 z4 hbs
      refine gA ?_
      refine HCall.mk ((body h4 bs sl x4 hbs (o4.ext x4) (o5.ext x4)).mono ?_)
      rintro e h5 ⟨x05, hz5, ⟨rfl, hno⟩ | ⟨w, z, rfl, eu, ev, p4, p5⟩⟩
      · have en : (match plainP H x, plainP H y with
          | some x, some y => looseQ H x y
          | _, _ => none) = none := by
          rcases hno with e | e
          · rw [e]
          · rw [e]; cases plainP H x <;> rfl
        rw [en]
        refine gA ?_
        exact ⟨rfl, x05⟩
      · rw [eu, ev]
        refine gA ?_
        have c1 := plainP_kind eu
        have c2 := plainP_kind ev
        exact ⟨⟨0, w, z⟩, ⟨rfl, p4, p5, x05, hz5, plain_ok g cl hx eu, plain_ok g cl hy ev, .inr ⟨rfl, rfl, by show w.k ≠ 7; rcases c1 with ⟨_, c⟩ | ⟨c, rfl⟩ <;> omega, by show z.k ≠ 7; rcases c2 with ⟨_, c⟩ | ⟨c, rfl⟩ <;> omega, by
          show ¬ (w.k ≤ 1 ∨ z.k ≤ 1)
          rcases c1 with ⟨_, c⟩ | ⟨c, rfl⟩ <;> rcases c2 with ⟨_, d⟩ | ⟨d, rfl⟩ <;> omega⟩⟩, by show (0 : Nat) < 1; omega⟩
    · have q4 : (x.k == 7) = false := beq_eq_false_iff_ne.2 k7'
      have q5 : (y.k == 7) = true := by rw [k7]; rfl
      refine gA ?_
      refine new_var (e := 91) [.pointer (some ⟨b4, 0, none⟩), .pointer (some ⟨b5, 0, none⟩)] rfl ?_
      intro h4 bs sl x4 z4 hbs
      refine gA ?_
      refine HCall.mk ((body h4 bs sl x4 hbs (o4.ext x4) (o5.ext x4)).mono ?_)
      rintro e h5 ⟨x05, hz5, ⟨rfl, hno⟩ | ⟨w, z, rfl, eu, ev, p4, p5⟩⟩
      · have en : (match plainP H x, plainP H y with
          | some x, some y => looseQ H x y
          | _, _ => none) = none := by
          rcases hno with e | e
          · rw [e]
          · rw [e]; cases plainP H x <;> rfl
        rw [en]
        refine gA ?_
        exact ⟨rfl, x05⟩
      · rw [eu, ev]
        refine gA ?_
        have c1 := plainP_kind eu
        have c2 := plainP_kind ev
        exact ⟨⟨0, w, z⟩, ⟨rfl, p4, p5, x05, hz5, plain_ok g cl hx eu, plain_ok g cl hy ev, .inr ⟨rfl, rfl, by show w.k ≠ 7; rcases c1 with ⟨_, c⟩ | ⟨c, rfl⟩ <;> omega, by show z.k ≠ 7; rcases c2 with ⟨_, c⟩ | ⟨c, rfl⟩ <;> omega, by
          show ¬ (w.k ≤ 1 ∨ z.k ≤ 1)
          rcases c1 with ⟨_, c⟩ | ⟨c, rfl⟩ <;> rcases c2 with ⟨_, d⟩ | ⟨d, rfl⟩ <;> omega⟩⟩, by show (0 : Nat) < 1; omega⟩
  have q4 : (x.k == 7) = false := beq_eq_false_iff_ne.2 (fun e => h7 (.inl e))
  have q5 : (y.k == 7) = false := beq_eq_false_iff_ne.2 (fun e => h7 (.inr e))
  have el : looseP H a b = some (numEq H x y) := by
    rcases hph with ⟨_, rfl, rfl⟩ | ⟨_, e, _, _, e4⟩
    · rw [looseP_go hk hn, plainP_no (fun e => h7 (.inl e)), plainP_no (fun e => h7 (.inr e))]
      exact looseQ_num hk hn
    · rw [e]; exact looseQ_num hk e4
  rw [el]
  refine gA ?_
  refine HCall.mk ((onumber_spec g cl x h3 g3 hx r3).mono ?_)
  rintro e h4 ⟨rfl, x4⟩
  have o5 := o5.ext x4
  have x04 := x03.trans x4
  unfold numEq
  cases hn1 : numP H x with
  | none =>
    refine gA ?_
    refine HCall.mk ((onumber_spec g cl y h4 (gl.ext x04) hy (r.ext x04)).mono ?_)
    rintro e2 h5 ⟨rfl, x5⟩
    have x05 := x04.trans x5
    cases hn2 : numP H y with
    | none =>
      refine gA ?_
      exact ⟨rfl, x05⟩
    | some m =>
      refine gA ?_
      exact ⟨rfl, x05⟩
  | some n =>
    refine gA ?_
    refine HCall.mk ((onumber_spec g cl y h4 (gl.ext x04) hy (r.ext x04)).mono ?_)
    rintro e2 h5 ⟨rfl, x5⟩
    have x05 := x04.trans x5
    cases hn2 : numP H y with
    | none =>
      refine gA ?_
      exact ⟨rfl, x05⟩
    | some m =>
      refine gA ?_
      exact ⟨rfl, x05⟩
set_option maxHeartbeats 16000000
def ordR (o : Option Int) (e : Ending) : Prop := match o with
  | none => ∃ n : Int, e = .returned (.tuple #[.int .i64 n, .int .i64 100])
  | some c => e = .returned (.tuple #[.int .i64 c, .int .i64 0])
theorem order_spec {bh : Nat} {H : PH} {Z : HZ} (g : Good H) (cl : ClsOk H) (a b : VV) (ha : VOk a) (hb : VOk b) (h : Heap) (gl : Glob h) (r : HeapR h bh H Z) :
    HCalls Tryz.prog 52 #[.pointer (some ⟨bh, 0, none⟩), .agg (cellsV a).toArray, .agg (cellsV b).toArray] h fun e h' => ordR (orderP H a b) e ∧ Ext h h' := by
  refine c52 (by simp) ?_
  refine gA ?_
  refine new_var (e := 24) (cellsV a) rfl ?_
  intro h1 b4 o4 x1 z1 hb4
  refine gA ?_
  refine new_var (e := 24) (cellsV b) rfl ?_
  intro h2 b5 o5 x2 z2 hb5
  replace o4 := o4.ext x2
  have x02 := x1.trans x2
  have hx1 := x1.1
  refine gA ?_
  refine new_var (e := 91) [.pointer (some ⟨b4, 0, none⟩), .pointer (some ⟨b5, 0, none⟩)] rfl ?_
  intro h3 bs sl x3 z3 hbs
  replace o4 := o4.ext x3
  replace o5 := o5.ext x3
  have x03 := x02.trans x3
  have e2 : ∀ h', Off2 b4 b5 h3 h' → Ext h h' := fun h' F => ⟨by have := x03.1; have := F.1; omega, fun q hq => by rw [F.2 q (by have := x03.1; omega) (by omega) (by omega), x03.2 q hq]⟩
  refine gA ?_
  refine HCall.mk ((simple_spec g cl a b ha hb h3 (gl.1.ext x03) (r.ext x03) o4 o5 sl (fun hm => by have := r.lt _ hm; omega) (fun hm => by have := r.lt _ hm; omega) (by omega) (by omega) (by omega) (fun h' F => gl.1.ext (e2 h' F))).mono ?_)
  clear o4 o5
  rintro e h4 ⟨F, ⟨rfl, hno⟩ | ⟨x, y, rfl, eu, ev, o4, o5⟩⟩
  · have en : orderP H a b = none := by
      unfold orderP
      rcases hno with e | e
      · rw [e]
      · rw [e]; cases plainP H a <;> rfl
    rw [en]
    refine gA ?_
    exact ⟨⟨_, rfl⟩, e2 _ F⟩
  have x04 := e2 _ F
  have hx := plain_ok g cl ha eu
  have hy := plain_ok g cl hb ev
  have eo : orderP H a b = if x.k = 4 ∧ y.k = 4 then some (cmpS x.s y.s) else (numsP H x y).map fun p => cmpI p.1 p.2 := by unfold orderP; rw [eu, ev]
  rw [eo]
  by_cases k44 : x.k = 4 ∧ y.k = 4
  · have q1 : (x.k == 4) = true := by rw [k44.1]; rfl
    have q2 : (y.k == 4) = true := by rw [k44.2]; rfl
    rw [if_pos k44]
    refine gA ?_
    refine HCall.mk ((scmp_spec x.s y.s h4).mono ?_)
    rintro e h5 ⟨rfl, rfl⟩
    refine gA ?_
    exact ⟨rfl, x04⟩
  rw [if_neg k44]
  have rest : ∀ (h5 : Heap) (e : Ending), numsR (numsP H x y) e → (∃ n m c : Int, e = .returned (.tuple #[.int .i64 n, .int .i64 m, .int .i64 c]) ∧ ((c = 100 ∧ numsP H x y = none) ∨ (c = 0 ∧ numsP H x y = some (n, m)))) := by
    intro h5 e hn
    cases hc : numsP H x y with
    | none => rw [hc] at hn; obtain ⟨n, m, rfl⟩ := hn; exact ⟨n, m, 100, rfl, .inl ⟨rfl, rfl⟩⟩
    | some p => rw [hc] at hn; exact ⟨p.1, p.2, 0, hn, .inr ⟨rfl, rfl⟩⟩
  by_cases k4 : x.k = 4
  · have q1 : (x.k == 4) = true := by rw [k4]; rfl
    have q2 : (y.k == 4) = false := beq_eq_false_iff_ne.2 (fun e => k44 ⟨k4, e⟩)
    refine gA ?_
    refine HCall.mk ((numbers_spec g cl x y hx hy h4 (gl.ext x04) (r.ext x04)).mono ?_)
    rintro e h5 ⟨hn, x5⟩
    obtain ⟨n, m, c, rfl, hc⟩ := rest h5 e hn
    refine gA ?_
    refine HCall.mk ((icmp_spec n m h5).mono ?_)
    rintro e h6 ⟨rfl, rfl⟩
    rcases hc with ⟨rfl, hc⟩ | ⟨rfl, hc⟩
    · rw [hc]
      refine gA ?_
      exact ⟨⟨_, rfl⟩, x04.trans x5⟩
    · rw [hc]
      refine gA ?_
      exact ⟨rfl, x04.trans x5⟩
  · have q1 : (x.k == 4) = false := beq_eq_false_iff_ne.2 k4
    refine gA ?_
    refine HCall.mk ((numbers_spec g cl x y hx hy h4 (gl.ext x04) (r.ext x04)).mono ?_)
    rintro e h5 ⟨hn, x5⟩
    obtain ⟨n, m, c, rfl, hc⟩ := rest h5 e hn
    refine gA ?_
    refine HCall.mk ((icmp_spec n m h5).mono ?_)
    rintro e h6 ⟨rfl, rfl⟩
    rcases hc with ⟨rfl, hc⟩ | ⟨rfl, hc⟩
    · rw [hc]
      refine gA ?_
      exact ⟨⟨_, rfl⟩, x04.trans x5⟩
    · rw [hc]
      refine gA ?_
      exact ⟨rfl, x04.trans x5⟩
theorem strEq_lit (x y : List UInt8) : strEq ⟨x.toArray⟩ ⟨y.toArray⟩ = decide (x = y) := by
  by_cases h : x = y
  · rw [decide_eq_true h, (strEq_iff _ _).2 (by rw [h])]
  · rw [decide_eq_false h, (strEq_no _ _).2 (fun e => h (by injection e with e; simpa using e))]
theorem order_vals {H : PH} {a b : VV} {c : Int} (h : orderP H a b = some c) : c = -1 ∨ c = 0 ∨ c = 1 := by
  unfold orderP at h
  have cs : ∀ x y : ByteArray, cmpS x y = -1 ∨ cmpS x y = 0 ∨ cmpS x y = 1 := by intro x y; unfold cmpS; split <;> (try split) <;> simp
  have ci : ∀ x y : Int, cmpI x y = -1 ∨ cmpI x y = 0 ∨ cmpI x y = 1 := by intro x y; unfold cmpI; split <;> (try split) <;> simp
  cases hx : plainP H a with
  | none => rw [hx] at h; cases h
  | some x =>
    cases hy : plainP H b with
    | none => rw [hx, hy] at h; cases h
    | some y =>
      rw [hx, hy] at h
      simp only at h
      split at h
      · cases h; exact cs _ _
      · cases hn : numsP H x y with
        | none => rw [hn] at h; cases h
        | some p => rw [hn] at h; cases h; exact ci _ _
theorem blong_spec (v : VV) (h : Heap) : HCalls Tryz.prog 47 #[.agg (cellsV v).toArray] h fun e h' => e = .returned (.bool (longV v)) ∧ Ext h h' := by
  refine c47 (by simp) ?_
  refine gA ?_
  refine new_var (e := 24) (cellsV v) rfl ?_
  intro h1 b1 o1 x1 z1 hb1
  by_cases k4 : v.k = 4
  · have q1 : (v.k == 4) = true := by rw [k4]; rfl
    have e : longV v = true := decide_eq_true (.inl k4)
    rw [e]
    refine gA ?_
    exact ⟨rfl, x1⟩
  have q1 : (v.k == 4) = false := beq_eq_false_iff_ne.2 k4
  by_cases k7 : v.k = 7
  · have q2 : (v.k == 7) = true := by rw [k7]; rfl
    have e : longV v = true := decide_eq_true (.inr k7)
    rw [e]
    refine gA ?_
    exact ⟨congrArg (fun b => Ending.returned (.bool b)) q2, x1⟩
  have q2 : (v.k == 7) = false := beq_eq_false_iff_ne.2 k7
  have e : longV v = false := decide_eq_false (by rintro (e | e) <;> contradiction)
  rw [e]
  refine gA ?_
  exact ⟨congrArg (fun b => Ending.returned (.bool b)) q2, x1⟩
theorem un_add {bh : Nat} {H : PH} {Z : HZ} (g : Good H) (cl : ClsOk H) (v : VV) (hv : VOk v) (h : Heap) (gl : Glob h) (r : HeapR h bh H Z) :
    HCalls Tryz.prog 19 #[.pointer (some ⟨bh, 0, none⟩), .string ⟨#[43]⟩, .agg (cellsV v).toArray] h fun e h' => e = .returned (resR (foundR (numP H v))) ∧ Ext h h' := by
  refine c19 (by simp) ?_
  refine gA ?_
  refine new_var (e := 24) (cellsV v) rfl ?_
  intro h1 b5 o5 x1 z1 hb5
  refine gA ?_
  refine new_var (e := 24) [.int .i64 0, .int .i64 0, .string ⟨#[]⟩] rfl ?_
  intro h2 b6 o6 x2 z2 hb6
  replace o5 := o5.ext x2
  have x02 := x1.trans x2
  have hx1 := x1.1
  have soAdd : strEq ⟨#[43]⟩ ⟨#[43]⟩ = true := (strEq_lit [43] [43]).trans (by decide)
  refine gA ?_
  refine HCall.mk ((onumber_spec g cl v h2 (gl.ext x02) hv (r.ext x02)).mono ?_)
  rintro e h3 ⟨rfl, x3⟩
  replace o6 := o6.ext x3
  rw [numR_eq]
  refine gA ?_
  refine HCall.mk ((found_spec (numP H v) h3).mono ?_)
  rintro e h4 ⟨rfl, x4⟩
  replace o6 := o6.ext x4
  refine gA ?_
  refine store_blk o6 (by simp) (by simp [isOne]) ?_
  intro hr fr zr orr
  replace orr : BlkW hr b6 24 (cellsV (foundR (numP H v)).1) := by simpa using orr
  refine gA ?_
  exact ⟨rfl, ((x02.trans x3).trans x4).offNew fr (by omega)⟩
theorem un_sub {bh : Nat} {H : PH} {Z : HZ} (g : Good H) (cl : ClsOk H) (v : VV) (hv : VOk v) (h : Heap) (gl : Glob h) (r : HeapR h bh H Z) :
    HCalls Tryz.prog 19 #[.pointer (some ⟨bh, 0, none⟩), .string ⟨#[45]⟩, .agg (cellsV v).toArray] h fun e h' => e = .returned (resR (match numP H v with | none => badR | some n => foundR (nSub 0 n))) ∧ Ext h h' := by
  refine c19 (by simp) ?_
  refine gA ?_
  refine new_var (e := 24) (cellsV v) rfl ?_
  intro h1 b5 o5 x1 z1 hb5
  refine gA ?_
  refine new_var (e := 24) [.int .i64 0, .int .i64 0, .string ⟨#[]⟩] rfl ?_
  intro h2 b6 o6 x2 z2 hb6
  replace o5 := o5.ext x2
  have x02 := x1.trans x2
  have hx1 := x1.1
  have soAdd : strEq ⟨#[45]⟩ ⟨#[43]⟩ = false := (strEq_lit [45] [43]).trans (by decide)
  have soSub : strEq ⟨#[45]⟩ ⟨#[45]⟩ = true := (strEq_lit [45] [45]).trans (by decide)
  refine gA ?_
  refine HCall.mk ((onumber_spec g cl v h2 (gl.ext x02) hv (r.ext x02)).mono ?_)
  rintro e h3 ⟨rfl, x3⟩
  replace o6 := o6.ext x3
  cases numP H v with
  | none =>
    refine gA ?_
    refine store_blk o6 (by simp) (by simp [isOne]) ?_
    intro hr fr zr orr
    replace orr : BlkW hr b6 24 (cellsV undefV) := by simpa using orr
    refine gA ?_
    exact ⟨rfl, (x02.trans x3).offNew fr (by omega)⟩
  | some n =>
    refine gA ?_
    refine HCall.mk ((sub_spec 0 n h3).mono ?_)
    rintro e h4 ⟨rfl, rfl⟩
    rw [numR_eq]
    refine gA ?_
    refine HCall.mk ((found_spec (nSub 0 n) h4).mono ?_)
    rintro e h5 ⟨rfl, x5⟩
    replace o6 := o6.ext x5
    refine gA ?_
    refine store_blk o6 (by simp) (by simp [isOne]) ?_
    intro hr fr zr orr
    replace orr : BlkW hr b6 24 (cellsV (foundR (nSub 0 n)).1) := by simpa using orr
    refine gA ?_
    exact ⟨rfl, ((x02.trans x3).trans x5).offNew fr (by omega)⟩
theorem un_not {bh : Nat} {H : PH} {Z : HZ} (g : Good H) (cl : ClsOk H) (v : VV) (hv : VOk v) (h : Heap) (gl : Glob h) (r : HeapR h bh H Z) :
    HCalls Tryz.prog 19 #[.pointer (some ⟨bh, 0, none⟩), .string ⟨#[33]⟩, .agg (cellsV v).toArray] h fun e h' => e = .returned (resR (boolV (!truthP v), 0)) ∧ Ext h h' := by
  refine c19 (by simp) ?_
  refine gA ?_
  refine new_var (e := 24) (cellsV v) rfl ?_
  intro h1 b5 o5 x1 z1 hb5
  refine gA ?_
  refine new_var (e := 24) [.int .i64 0, .int .i64 0, .string ⟨#[]⟩] rfl ?_
  intro h2 b6 o6 x2 z2 hb6
  replace o5 := o5.ext x2
  have x02 := x1.trans x2
  have hx1 := x1.1
  have soAdd : strEq ⟨#[33]⟩ ⟨#[43]⟩ = false := (strEq_lit [33] [43]).trans (by decide)
  have soSub : strEq ⟨#[33]⟩ ⟨#[45]⟩ = false := (strEq_lit [33] [45]).trans (by decide)
  have soNot : strEq ⟨#[33]⟩ ⟨#[33]⟩ = true := (strEq_lit [33] [33]).trans (by decide)
  refine gA ?_
  refine HCall.mk ((otruthy_spec v h2).mono ?_)
  rintro e h3 ⟨rfl, x3⟩
  replace o6 := o6.ext x3
  refine gA ?_
  refine HCall.mk ((otruth_spec (!truthP v) h3).mono ?_)
  rintro e h4 ⟨rfl, x4⟩
  replace o6 := o6.ext x4
  cases truthP v
  · have eb : cellsV (boolV (!false)) = [.int .i64 2, .int .i64 1, .string ⟨#[]⟩] := rfl
    rw [eb]
    refine gA ?_
    refine store_blk o6 (by simp) (by simp [isOne]) ?_
    intro hr fr zr orr
    replace orr : BlkW hr b6 24 [.int .i64 2, .int .i64 1, .string ⟨#[]⟩] := by simpa using orr
    refine gA ?_
    exact ⟨rfl, ((x02.trans x3).trans x4).offNew fr (by omega)⟩
  · have eb : cellsV (boolV (!true)) = [.int .i64 2, .int .i64 0, .string ⟨#[]⟩] := rfl
    rw [eb]
    refine gA ?_
    refine store_blk o6 (by simp) (by simp [isOne]) ?_
    intro hr fr zr orr
    replace orr : BlkW hr b6 24 [.int .i64 2, .int .i64 0, .string ⟨#[]⟩] := by simpa using orr
    refine gA ?_
    exact ⟨rfl, ((x02.trans x3).trans x4).offNew fr (by omega)⟩
theorem ty_plain (H : PH) (v : VV) : plainL (tyP H v) ∧ (tyP H v).length ≤ 100 := by
  unfold tyP
  split
  · unfold plainL; decide
  split
  · unfold plainL; decide
  split
  · unfold plainL; decide
  split
  · split <;> (unfold plainL; decide)
  · unfold plainL; decide
theorem un_typeof {bh : Nat} {H : PH} {Z : HZ} (g : Good H) (cl : ClsOk H) (v : VV) (hv : VOk v) (h : Heap) (gl : Glob h) (r : HeapR h bh H Z) :
    HCalls Tryz.prog 19 #[.pointer (some ⟨bh, 0, none⟩), .string ⟨#[116, 121, 112, 101, 111, 102]⟩, .agg (cellsV v).toArray] h fun e h' => e = .returned (resR (strV (uS (tyP H v)), 0)) ∧ Ext h h' := by
  refine c19 (by simp) ?_
  refine gA ?_
  refine new_var (e := 24) (cellsV v) rfl ?_
  intro h1 b5 o5 x1 z1 hb5
  refine gA ?_
  refine new_var (e := 24) [.int .i64 0, .int .i64 0, .string ⟨#[]⟩] rfl ?_
  intro h2 b6 o6 x2 z2 hb6
  replace o5 := o5.ext x2
  have x02 := x1.trans x2
  have hx1 := x1.1
  have soAdd : strEq ⟨#[116, 121, 112, 101, 111, 102]⟩ ⟨#[43]⟩ = false := (strEq_lit [116, 121, 112, 101, 111, 102] [43]).trans (by decide)
  have soSub : strEq ⟨#[116, 121, 112, 101, 111, 102]⟩ ⟨#[45]⟩ = false := (strEq_lit [116, 121, 112, 101, 111, 102] [45]).trans (by decide)
  have soNot : strEq ⟨#[116, 121, 112, 101, 111, 102]⟩ ⟨#[33]⟩ = false := (strEq_lit [116, 121, 112, 101, 111, 102] [33]).trans (by decide)
  have soTypeof : strEq ⟨#[116, 121, 112, 101, 111, 102]⟩ ⟨#[116, 121, 112, 101, 111, 102]⟩ = true := (strEq_lit [116, 121, 112, 101, 111, 102] [116, 121, 112, 101, 111, 102]).trans (by decide)
  refine gA ?_
  refine HCall.mk ((otypeof_spec g v h2 hv (r.ext x02)).mono ?_)
  rintro e h3 ⟨rfl, x3⟩
  replace o6 := o6.ext x3
  refine gA ?_
  refine HCall.mk ((plainF_spec (tyP H v) (ty_plain H v).1 (by have := (ty_plain H v).2; omega) h3).mono ?_)
  rintro e h4 ⟨rfl, x4⟩
  replace o6 := o6.ext x4
  refine gA ?_
  refine HCall.mk ((ostr_spec (uS (tyP H v)) h4).mono ?_)
  rintro e h5 ⟨rfl, x5⟩
  replace o6 := o6.ext x5
  refine gA ?_
  refine store_blk o6 (by simp) (by simp [isOne]) ?_
  intro hr fr zr orr
  replace orr : BlkW hr b6 24 (cellsV (strV (uS (tyP H v)))) := by simpa using orr
  refine gA ?_
  exact ⟨rfl, (((x02.trans x3).trans x4).trans x5).offNew fr (by omega)⟩
theorem un_void {bh : Nat} {H : PH} {Z : HZ} (g : Good H) (cl : ClsOk H) (v : VV) (hv : VOk v) (h : Heap) (gl : Glob h) (r : HeapR h bh H Z) :
    HCalls Tryz.prog 19 #[.pointer (some ⟨bh, 0, none⟩), .string ⟨#[118, 111, 105, 100]⟩, .agg (cellsV v).toArray] h fun e h' => e = .returned (resR (undefV, 0)) ∧ Ext h h' := by
  refine c19 (by simp) ?_
  refine gA ?_
  refine new_var (e := 24) (cellsV v) rfl ?_
  intro h1 b5 o5 x1 z1 hb5
  refine gA ?_
  refine new_var (e := 24) [.int .i64 0, .int .i64 0, .string ⟨#[]⟩] rfl ?_
  intro h2 b6 o6 x2 z2 hb6
  replace o5 := o5.ext x2
  have x02 := x1.trans x2
  have hx1 := x1.1
  have soAdd : strEq ⟨#[118, 111, 105, 100]⟩ ⟨#[43]⟩ = false := (strEq_lit [118, 111, 105, 100] [43]).trans (by decide)
  have soSub : strEq ⟨#[118, 111, 105, 100]⟩ ⟨#[45]⟩ = false := (strEq_lit [118, 111, 105, 100] [45]).trans (by decide)
  have soNot : strEq ⟨#[118, 111, 105, 100]⟩ ⟨#[33]⟩ = false := (strEq_lit [118, 111, 105, 100] [33]).trans (by decide)
  have soTypeof : strEq ⟨#[118, 111, 105, 100]⟩ ⟨#[116, 121, 112, 101, 111, 102]⟩ = false := (strEq_lit [118, 111, 105, 100] [116, 121, 112, 101, 111, 102]).trans (by decide)
  have soVoid : strEq ⟨#[118, 111, 105, 100]⟩ ⟨#[118, 111, 105, 100]⟩ = true := (strEq_lit [118, 111, 105, 100] [118, 111, 105, 100]).trans (by decide)
  refine gA ?_
  refine store_blk o6 (by simp) (by simp [isOne]) ?_
  intro hr fr zr orr
  replace orr : BlkW hr b6 24 (cellsV undefV) := by simpa using orr
  refine gA ?_
  exact ⟨rfl, (x02).offNew fr (by omega)⟩
theorem ounary_spec {bh : Nat} {H : PH} {Z : HZ} (g : Good H) (cl : ClsOk H) (op : ByteArray) (v : VV) (hv : VOk v) (h : Heap) (gl : Glob h) (r : HeapR h bh H Z) :
    HCalls Tryz.prog 19 #[.pointer (some ⟨bh, 0, none⟩), .string op, .agg (cellsV v).toArray] h fun e h' => e = .returned (resR (unaryP H op v)) ∧ Ext h h' := by
  by_cases hcc0 : op = oAdd
  · have e : unaryP H op v = unaryP H oAdd v := by rw [hcc0]
    rw [e, hcc0]
    exact un_add g cl v hv h gl r
  have q0 : strEq op ⟨#[43]⟩ = false := (strEq_no _ _).2 hcc0
  by_cases hcc1 : op = oSub
  · have e : unaryP H op v = unaryP H oSub v := by rw [hcc1]
    rw [e, hcc1]
    exact un_sub g cl v hv h gl r
  have q1 : strEq op ⟨#[45]⟩ = false := (strEq_no _ _).2 hcc1
  by_cases hcc2 : op = oNot
  · have e : unaryP H op v = unaryP H oNot v := by rw [hcc2]
    rw [e, hcc2]
    exact un_not g cl v hv h gl r
  have q2 : strEq op ⟨#[33]⟩ = false := (strEq_no _ _).2 hcc2
  by_cases hcc3 : op = oTypeof
  · have e : unaryP H op v = unaryP H oTypeof v := by rw [hcc3]
    rw [e, hcc3]
    exact un_typeof g cl v hv h gl r
  have q3 : strEq op ⟨#[116, 121, 112, 101, 111, 102]⟩ = false := (strEq_no _ _).2 hcc3
  by_cases hcc4 : op = oVoid
  · have e : unaryP H op v = unaryP H oVoid v := by rw [hcc4]
    rw [e, hcc4]
    exact un_void g cl v hv h gl r
  have q4 : strEq op ⟨#[118, 111, 105, 100]⟩ = false := (strEq_no _ _).2 hcc4
  have e : unaryP H op v = (undefV, 1) := by unfold unaryP; rw [if_neg hcc0, if_neg hcc1, if_neg hcc2, if_neg hcc3, if_neg hcc4]
  rw [e]
  refine c19 (by simp) ?_
  refine gA ?_
  refine new_var (e := 24) (cellsV v) rfl ?_
  intro h1 b5 o5 x1 z1 hb5
  refine gA ?_
  refine new_var (e := 24) [.int .i64 0, .int .i64 0, .string ⟨#[]⟩] rfl ?_
  intro h2 b6 o6 x2 z2 hb6
  replace o5 := o5.ext x2
  have x02 := x1.trans x2
  have hx1 := x1.1
  refine gA ?_
  refine store_blk o6 (by simp) (by simp [isOne]) ?_
  intro hr fr zr orr
  replace orr : BlkW hr b6 24 (cellsV undefV) := by simpa using orr
  refine gA ?_
  exact ⟨rfl, (x02).offNew fr (by omega)⟩
theorem bin_sub {bh : Nat} {H : PH} {Z : HZ} (g : Good H) (cl : ClsOk H) (a b : VV) (ha : VOk a) (hb : VOk b) (h : Heap) (gl : Glob h) (r : HeapR h bh H Z) :
    HCalls Tryz.prog 12 #[.pointer (some ⟨bh, 0, none⟩), .string ⟨#[45]⟩, .agg (cellsV a).toArray, .agg (cellsV b).toArray] h fun e h' => e = .returned (resR (reckR nSub (numsP H a b))) ∧ Ext h h' := by
  refine c12 (by simp) ?_
  refine gA ?_
  refine new_var (e := 24) (cellsV a) rfl ?_
  intro h1 ba oa x1 z1 hba
  refine gA ?_
  refine new_var (e := 24) (cellsV b) rfl ?_
  intro h2 bb ob x2 z2 hbb
  replace oa := oa.ext x2
  refine gA ?_
  refine new_var (e := 24) [.int .i64 0, .int .i64 0, .string ⟨#[]⟩] rfl ?_
  intro h3 b6 o6 x3 z3 hb6
  replace oa := oa.ext x3
  replace ob := ob.ext x3
  have x03 := (x1.trans x2).trans x3
  have hx1 := x1.1
  have hx2 := x2.1
  have soAdd : strEq ⟨#[45]⟩ ⟨#[43]⟩ = false := (strEq_lit [45] [43]).trans (by decide)
  have soSub : strEq ⟨#[45]⟩ ⟨#[45]⟩ = true := (strEq_lit [45] [45]).trans (by decide)
  refine gA ?_
  refine HCall.mk ((numbers_spec g cl a b ha hb h3 (gl.ext (x03)) (r.ext (x03))).mono ?_)
  rintro e h4 ⟨hn, x4⟩
  replace o6 := o6.ext x4
  have x04 := (x03).trans x4
  cases hc : numsP H a b with
  | none =>
    rw [hc] at hn
    obtain ⟨n, m, rfl⟩ := hn
    refine gA ?_
    refine store_blk o6 (by simp) (by simp [isOne]) ?_
    intro hr fr zr orr
    replace orr : BlkW hr b6 24 (cellsV undefV) := by simpa using orr
    refine gA ?_
    exact ⟨rfl, (x04).offNew fr (by omega)⟩
  | some p =>
    rw [hc] at hn
    obtain rfl : e = _ := hn
    refine gA ?_
    refine HCall.mk ((reckon_spec _ p.1 p.2 h4).mono ?_)
    rintro e h5 ⟨rfl, rfl⟩
    rw [numR_eq]
    refine gA ?_
    refine HCall.mk ((found_spec (nSub p.1 p.2) h5).mono ?_)
    rintro e h6 ⟨rfl, x6⟩
    replace o6 := o6.ext x6
    refine gA ?_
    refine store_blk o6 (by simp) (by simp [isOne]) ?_
    intro hr fr zr orr
    replace orr : BlkW hr b6 24 (cellsV (foundR (nSub p.1 p.2)).1) := by simpa using orr
    refine gA ?_
    exact ⟨rfl, (x04.trans x6).offNew fr (by omega)⟩
theorem bin_mul {bh : Nat} {H : PH} {Z : HZ} (g : Good H) (cl : ClsOk H) (a b : VV) (ha : VOk a) (hb : VOk b) (h : Heap) (gl : Glob h) (r : HeapR h bh H Z) :
    HCalls Tryz.prog 12 #[.pointer (some ⟨bh, 0, none⟩), .string ⟨#[42]⟩, .agg (cellsV a).toArray, .agg (cellsV b).toArray] h fun e h' => e = .returned (resR (reckR nMul (numsP H a b))) ∧ Ext h h' := by
  refine c12 (by simp) ?_
  refine gA ?_
  refine new_var (e := 24) (cellsV a) rfl ?_
  intro h1 ba oa x1 z1 hba
  refine gA ?_
  refine new_var (e := 24) (cellsV b) rfl ?_
  intro h2 bb ob x2 z2 hbb
  replace oa := oa.ext x2
  refine gA ?_
  refine new_var (e := 24) [.int .i64 0, .int .i64 0, .string ⟨#[]⟩] rfl ?_
  intro h3 b6 o6 x3 z3 hb6
  replace oa := oa.ext x3
  replace ob := ob.ext x3
  have x03 := (x1.trans x2).trans x3
  have hx1 := x1.1
  have hx2 := x2.1
  have soAdd : strEq ⟨#[42]⟩ ⟨#[43]⟩ = false := (strEq_lit [42] [43]).trans (by decide)
  have soSub : strEq ⟨#[42]⟩ ⟨#[45]⟩ = false := (strEq_lit [42] [45]).trans (by decide)
  have soMul : strEq ⟨#[42]⟩ ⟨#[42]⟩ = true := (strEq_lit [42] [42]).trans (by decide)
  refine gA ?_
  refine HCall.mk ((numbers_spec g cl a b ha hb h3 (gl.ext (x03)) (r.ext (x03))).mono ?_)
  rintro e h4 ⟨hn, x4⟩
  replace o6 := o6.ext x4
  have x04 := (x03).trans x4
  cases hc : numsP H a b with
  | none =>
    rw [hc] at hn
    obtain ⟨n, m, rfl⟩ := hn
    refine gA ?_
    refine store_blk o6 (by simp) (by simp [isOne]) ?_
    intro hr fr zr orr
    replace orr : BlkW hr b6 24 (cellsV undefV) := by simpa using orr
    refine gA ?_
    exact ⟨rfl, (x04).offNew fr (by omega)⟩
  | some p =>
    rw [hc] at hn
    obtain rfl : e = _ := hn
    refine gA ?_
    refine HCall.mk ((reckon_spec _ p.1 p.2 h4).mono ?_)
    rintro e h5 ⟨rfl, rfl⟩
    rw [numR_eq]
    refine gA ?_
    refine HCall.mk ((found_spec (nMul p.1 p.2) h5).mono ?_)
    rintro e h6 ⟨rfl, x6⟩
    replace o6 := o6.ext x6
    refine gA ?_
    refine store_blk o6 (by simp) (by simp [isOne]) ?_
    intro hr fr zr orr
    replace orr : BlkW hr b6 24 (cellsV (foundR (nMul p.1 p.2)).1) := by simpa using orr
    refine gA ?_
    exact ⟨rfl, (x04.trans x6).offNew fr (by omega)⟩
theorem bin_div {bh : Nat} {H : PH} {Z : HZ} (g : Good H) (cl : ClsOk H) (a b : VV) (ha : VOk a) (hb : VOk b) (h : Heap) (gl : Glob h) (r : HeapR h bh H Z) :
    HCalls Tryz.prog 12 #[.pointer (some ⟨bh, 0, none⟩), .string ⟨#[47]⟩, .agg (cellsV a).toArray, .agg (cellsV b).toArray] h fun e h' => e = .returned (resR (reckR nDiv (numsP H a b))) ∧ Ext h h' := by
  refine c12 (by simp) ?_
  refine gA ?_
  refine new_var (e := 24) (cellsV a) rfl ?_
  intro h1 ba oa x1 z1 hba
  refine gA ?_
  refine new_var (e := 24) (cellsV b) rfl ?_
  intro h2 bb ob x2 z2 hbb
  replace oa := oa.ext x2
  refine gA ?_
  refine new_var (e := 24) [.int .i64 0, .int .i64 0, .string ⟨#[]⟩] rfl ?_
  intro h3 b6 o6 x3 z3 hb6
  replace oa := oa.ext x3
  replace ob := ob.ext x3
  have x03 := (x1.trans x2).trans x3
  have hx1 := x1.1
  have hx2 := x2.1
  have soAdd : strEq ⟨#[47]⟩ ⟨#[43]⟩ = false := (strEq_lit [47] [43]).trans (by decide)
  have soSub : strEq ⟨#[47]⟩ ⟨#[45]⟩ = false := (strEq_lit [47] [45]).trans (by decide)
  have soMul : strEq ⟨#[47]⟩ ⟨#[42]⟩ = false := (strEq_lit [47] [42]).trans (by decide)
  have soDiv : strEq ⟨#[47]⟩ ⟨#[47]⟩ = true := (strEq_lit [47] [47]).trans (by decide)
  refine gA ?_
  refine HCall.mk ((numbers_spec g cl a b ha hb h3 (gl.ext (x03)) (r.ext (x03))).mono ?_)
  rintro e h4 ⟨hn, x4⟩
  replace o6 := o6.ext x4
  have x04 := (x03).trans x4
  cases hc : numsP H a b with
  | none =>
    rw [hc] at hn
    obtain ⟨n, m, rfl⟩ := hn
    refine gA ?_
    refine store_blk o6 (by simp) (by simp [isOne]) ?_
    intro hr fr zr orr
    replace orr : BlkW hr b6 24 (cellsV undefV) := by simpa using orr
    refine gA ?_
    exact ⟨rfl, (x04).offNew fr (by omega)⟩
  | some p =>
    rw [hc] at hn
    obtain rfl : e = _ := hn
    refine gA ?_
    refine HCall.mk ((reckon_spec _ p.1 p.2 h4).mono ?_)
    rintro e h5 ⟨rfl, rfl⟩
    rw [numR_eq]
    refine gA ?_
    refine HCall.mk ((found_spec (nDiv p.1 p.2) h5).mono ?_)
    rintro e h6 ⟨rfl, x6⟩
    replace o6 := o6.ext x6
    refine gA ?_
    refine store_blk o6 (by simp) (by simp [isOne]) ?_
    intro hr fr zr orr
    replace orr : BlkW hr b6 24 (cellsV (foundR (nDiv p.1 p.2)).1) := by simpa using orr
    refine gA ?_
    exact ⟨rfl, (x04.trans x6).offNew fr (by omega)⟩
theorem bin_mod {bh : Nat} {H : PH} {Z : HZ} (g : Good H) (cl : ClsOk H) (a b : VV) (ha : VOk a) (hb : VOk b) (h : Heap) (gl : Glob h) (r : HeapR h bh H Z) :
    HCalls Tryz.prog 12 #[.pointer (some ⟨bh, 0, none⟩), .string ⟨#[37]⟩, .agg (cellsV a).toArray, .agg (cellsV b).toArray] h fun e h' => e = .returned (resR (reckR nMod (numsP H a b))) ∧ Ext h h' := by
  refine c12 (by simp) ?_
  refine gA ?_
  refine new_var (e := 24) (cellsV a) rfl ?_
  intro h1 ba oa x1 z1 hba
  refine gA ?_
  refine new_var (e := 24) (cellsV b) rfl ?_
  intro h2 bb ob x2 z2 hbb
  replace oa := oa.ext x2
  refine gA ?_
  refine new_var (e := 24) [.int .i64 0, .int .i64 0, .string ⟨#[]⟩] rfl ?_
  intro h3 b6 o6 x3 z3 hb6
  replace oa := oa.ext x3
  replace ob := ob.ext x3
  have x03 := (x1.trans x2).trans x3
  have hx1 := x1.1
  have hx2 := x2.1
  have soAdd : strEq ⟨#[37]⟩ ⟨#[43]⟩ = false := (strEq_lit [37] [43]).trans (by decide)
  have soSub : strEq ⟨#[37]⟩ ⟨#[45]⟩ = false := (strEq_lit [37] [45]).trans (by decide)
  have soMul : strEq ⟨#[37]⟩ ⟨#[42]⟩ = false := (strEq_lit [37] [42]).trans (by decide)
  have soDiv : strEq ⟨#[37]⟩ ⟨#[47]⟩ = false := (strEq_lit [37] [47]).trans (by decide)
  have soMod : strEq ⟨#[37]⟩ ⟨#[37]⟩ = true := (strEq_lit [37] [37]).trans (by decide)
  refine gA ?_
  refine HCall.mk ((numbers_spec g cl a b ha hb h3 (gl.ext (x03)) (r.ext (x03))).mono ?_)
  rintro e h4 ⟨hn, x4⟩
  replace o6 := o6.ext x4
  have x04 := (x03).trans x4
  cases hc : numsP H a b with
  | none =>
    rw [hc] at hn
    obtain ⟨n, m, rfl⟩ := hn
    refine gA ?_
    refine store_blk o6 (by simp) (by simp [isOne]) ?_
    intro hr fr zr orr
    replace orr : BlkW hr b6 24 (cellsV undefV) := by simpa using orr
    refine gA ?_
    exact ⟨rfl, (x04).offNew fr (by omega)⟩
  | some p =>
    rw [hc] at hn
    obtain rfl : e = _ := hn
    refine gA ?_
    refine HCall.mk ((reckon_spec _ p.1 p.2 h4).mono ?_)
    rintro e h5 ⟨rfl, rfl⟩
    rw [numR_eq]
    refine gA ?_
    refine HCall.mk ((found_spec (nMod p.1 p.2) h5).mono ?_)
    rintro e h6 ⟨rfl, x6⟩
    replace o6 := o6.ext x6
    refine gA ?_
    refine store_blk o6 (by simp) (by simp [isOne]) ?_
    intro hr fr zr orr
    replace orr : BlkW hr b6 24 (cellsV (foundR (nMod p.1 p.2)).1) := by simpa using orr
    refine gA ?_
    exact ⟨rfl, (x04.trans x6).offNew fr (by omega)⟩
theorem bin_add {bh : Nat} {H : PH} {Z : HZ} (g : Good H) (cl : ClsOk H) (a b : VV) (ha : VOk a) (hb : VOk b) (h : Heap) (gl : Glob h) (r : HeapR h bh H Z) :
    HCalls Tryz.prog 12 #[.pointer (some ⟨bh, 0, none⟩), .string ⟨#[43]⟩, .agg (cellsV a).toArray, .agg (cellsV b).toArray] h fun e h' => e = .returned (resR (if longV a = true ∨ longV b = true then joinR H a b else reckR nAdd (numsP H a b))) ∧ Ext h h' := by
  refine c12 (by simp) ?_
  refine gA ?_
  refine new_var (e := 24) (cellsV a) rfl ?_
  intro h1 ba oa x1 z1 hba
  refine gA ?_
  refine new_var (e := 24) (cellsV b) rfl ?_
  intro h2 bb ob x2 z2 hbb
  replace oa := oa.ext x2
  refine gA ?_
  refine new_var (e := 24) [.int .i64 0, .int .i64 0, .string ⟨#[]⟩] rfl ?_
  intro h3 b6 o6 x3 z3 hb6
  replace oa := oa.ext x3
  replace ob := ob.ext x3
  have x03 := (x1.trans x2).trans x3
  have hx1 := x1.1
  have hx2 := x2.1
  have soAdd : strEq ⟨#[43]⟩ ⟨#[43]⟩ = true := (strEq_lit [43] [43]).trans (by decide)
  refine gA ?_
  refine HCall.mk ((blong_spec a h3).mono ?_)
  rintro e ha4 ⟨rfl, xa4⟩
  replace oa := oa.ext xa4
  replace ob := ob.ext xa4
  replace o6 := o6.ext xa4
  cases la : longV a with
  | true =>
    rw [if_pos (.inl rfl)]
    refine gA ?_
    refine HCall.mk ((join_spec g cl a b ha hb ha4 (gl.1.ext (x03.trans xa4)) (r.ext (x03.trans xa4))).mono ?_)
    rintro e h6 ⟨rfl, x6⟩
    replace o6 := o6.ext x6
    refine gA ?_
    refine store_blk o6 (by simp) (by simp [isOne]) ?_
    intro hr fr zr orr
    replace orr : BlkW hr b6 24 (cellsV (joinR H a b).1) := by simpa using orr
    refine gA ?_
    exact ⟨rfl, ((x03.trans xa4).trans x6).offNew fr (by omega)⟩
  | false =>
    refine gA ?_
    refine HCall.mk ((blong_spec b ha4).mono ?_)
    rintro e hb4 ⟨rfl, xb4⟩
    replace oa := oa.ext xb4
    replace ob := ob.ext xb4
    replace o6 := o6.ext xb4
    cases lb : longV b with
    | true =>
      rw [if_pos (.inr rfl)]
      refine gA ?_
      refine HCall.mk ((join_spec g cl a b ha hb hb4 (gl.1.ext ((x03.trans xa4).trans xb4)) (r.ext ((x03.trans xa4).trans xb4))).mono ?_)
      rintro e h6 ⟨rfl, x6⟩
      replace o6 := o6.ext x6
      refine gA ?_
      refine store_blk o6 (by simp) (by simp [isOne]) ?_
      intro hr fr zr orr
      replace orr : BlkW hr b6 24 (cellsV (joinR H a b).1) := by simpa using orr
      refine gA ?_
      exact ⟨rfl, (((x03.trans xa4).trans xb4).trans x6).offNew fr (by omega)⟩
    | false =>
      rw [if_neg (by rintro (h | h) <;> cases h)]
      refine gA ?_
      refine HCall.mk ((numbers_spec g cl a b ha hb hb4 (gl.ext ((x03.trans xa4).trans xb4)) (r.ext ((x03.trans xa4).trans xb4))).mono ?_)
      rintro e h4 ⟨hn, x4⟩
      replace o6 := o6.ext x4
      have x04 := ((x03.trans xa4).trans xb4).trans x4
      cases hc : numsP H a b with
      | none =>
        rw [hc] at hn
        obtain ⟨n, m, rfl⟩ := hn
        refine gA ?_
        refine store_blk o6 (by simp) (by simp [isOne]) ?_
        intro hr fr zr orr
        replace orr : BlkW hr b6 24 (cellsV undefV) := by simpa using orr
        refine gA ?_
        exact ⟨rfl, (x04).offNew fr (by omega)⟩
      | some p =>
        rw [hc] at hn
        obtain rfl : e = _ := hn
        refine gA ?_
        refine HCall.mk ((reckon_spec _ p.1 p.2 h4).mono ?_)
        rintro e h5 ⟨rfl, rfl⟩
        rw [numR_eq]
        refine gA ?_
        refine HCall.mk ((found_spec (nAdd p.1 p.2) h5).mono ?_)
        rintro e h6 ⟨rfl, x6⟩
        replace o6 := o6.ext x6
        refine gA ?_
        refine store_blk o6 (by simp) (by simp [isOne]) ?_
        intro hr fr zr orr
        replace orr : BlkW hr b6 24 (cellsV (foundR (nAdd p.1 p.2)).1) := by simpa using orr
        refine gA ?_
        exact ⟨rfl, (x04.trans x6).offNew fr (by omega)⟩
theorem bin_lt {bh : Nat} {H : PH} {Z : HZ} (g : Good H) (cl : ClsOk H) (a b : VV) (ha : VOk a) (hb : VOk b) (h : Heap) (gl : Glob h) (r : HeapR h bh H Z) :
    HCalls Tryz.prog 12 #[.pointer (some ⟨bh, 0, none⟩), .string ⟨#[60]⟩, .agg (cellsV a).toArray, .agg (cellsV b).toArray] h fun e h' => e = .returned (resR (cmpR (fun c => decide (c < 0)) (orderP H a b))) ∧ Ext h h' := by
  refine c12 (by simp) ?_
  refine gA ?_
  refine new_var (e := 24) (cellsV a) rfl ?_
  intro h1 ba oa x1 z1 hba
  refine gA ?_
  refine new_var (e := 24) (cellsV b) rfl ?_
  intro h2 bb ob x2 z2 hbb
  replace oa := oa.ext x2
  refine gA ?_
  refine new_var (e := 24) [.int .i64 0, .int .i64 0, .string ⟨#[]⟩] rfl ?_
  intro h3 b6 o6 x3 z3 hb6
  replace oa := oa.ext x3
  replace ob := ob.ext x3
  have x03 := (x1.trans x2).trans x3
  have hx1 := x1.1
  have hx2 := x2.1
  have soAdd : strEq ⟨#[60]⟩ ⟨#[43]⟩ = false := (strEq_lit [60] [43]).trans (by decide)
  have soSub : strEq ⟨#[60]⟩ ⟨#[45]⟩ = false := (strEq_lit [60] [45]).trans (by decide)
  have soMul : strEq ⟨#[60]⟩ ⟨#[42]⟩ = false := (strEq_lit [60] [42]).trans (by decide)
  have soDiv : strEq ⟨#[60]⟩ ⟨#[47]⟩ = false := (strEq_lit [60] [47]).trans (by decide)
  have soMod : strEq ⟨#[60]⟩ ⟨#[37]⟩ = false := (strEq_lit [60] [37]).trans (by decide)
  have soLt : strEq ⟨#[60]⟩ ⟨#[60]⟩ = true := (strEq_lit [60] [60]).trans (by decide)
  refine gA ?_
  refine HCall.mk ((order_spec g cl a b ha hb h3 (gl.ext x03) (r.ext x03)).mono ?_)
  rintro e h4 ⟨hn, x4⟩
  replace o6 := o6.ext x4
  have x04 := x03.trans x4
  cases hc : orderP H a b with
  | none =>
    rw [hc] at hn
    obtain ⟨n, rfl⟩ := hn
    refine gA ?_
    refine store_blk o6 (by simp) (by simp [isOne]) ?_
    intro hr fr zr orr
    replace orr : BlkW hr b6 24 (cellsV undefV) := by simpa using orr
    refine gA ?_
    exact ⟨rfl, (x04).offNew fr (by omega)⟩
  | some c =>
    rw [hc] at hn
    obtain rfl : e = _ := hn
    rcases order_vals hc with rfl | rfl | rfl
    · refine gA ?_
      refine HIdx.mk 0 rfl (by decide) ?_
      refine gA ?_
      refine HCall.mk ((otruth_spec true h4).mono ?_)
      rintro e ht ⟨rfl, xt⟩
      replace o6 := o6.ext xt
      have eb : cellsV (boolV true) = [.int .i64 2, .int .i64 1, .string ⟨#[]⟩] := rfl
      rw [eb]
      refine gA ?_
      refine store_blk o6 (by simp) (by simp [isOne]) ?_
      intro hr fr zr orr
      replace orr : BlkW hr b6 24 [.int .i64 2, .int .i64 1, .string ⟨#[]⟩] := by simpa using orr
      refine gA ?_
      exact ⟨rfl, ((x04).trans xt).offNew fr (by omega)⟩
    · refine gA ?_
      refine HCall.mk ((otruth_spec false h4).mono ?_)
      rintro e ht ⟨rfl, xt⟩
      replace o6 := o6.ext xt
      have eb : cellsV (boolV false) = [.int .i64 2, .int .i64 0, .string ⟨#[]⟩] := rfl
      rw [eb]
      refine gA ?_
      refine store_blk o6 (by simp) (by simp [isOne]) ?_
      intro hr fr zr orr
      replace orr : BlkW hr b6 24 [.int .i64 2, .int .i64 0, .string ⟨#[]⟩] := by simpa using orr
      refine gA ?_
      exact ⟨rfl, ((x04).trans xt).offNew fr (by omega)⟩
    · refine gA ?_
      refine HIdx.mk 0 rfl (by decide) ?_
      refine gA ?_
      refine HCall.mk ((otruth_spec false h4).mono ?_)
      rintro e ht ⟨rfl, xt⟩
      replace o6 := o6.ext xt
      have eb : cellsV (boolV false) = [.int .i64 2, .int .i64 0, .string ⟨#[]⟩] := rfl
      rw [eb]
      refine gA ?_
      refine store_blk o6 (by simp) (by simp [isOne]) ?_
      intro hr fr zr orr
      replace orr : BlkW hr b6 24 [.int .i64 2, .int .i64 0, .string ⟨#[]⟩] := by simpa using orr
      refine gA ?_
      exact ⟨rfl, ((x04).trans xt).offNew fr (by omega)⟩
theorem bin_gt {bh : Nat} {H : PH} {Z : HZ} (g : Good H) (cl : ClsOk H) (a b : VV) (ha : VOk a) (hb : VOk b) (h : Heap) (gl : Glob h) (r : HeapR h bh H Z) :
    HCalls Tryz.prog 12 #[.pointer (some ⟨bh, 0, none⟩), .string ⟨#[62]⟩, .agg (cellsV a).toArray, .agg (cellsV b).toArray] h fun e h' => e = .returned (resR (cmpR (fun c => decide (0 < c)) (orderP H a b))) ∧ Ext h h' := by
  refine c12 (by simp) ?_
  refine gA ?_
  refine new_var (e := 24) (cellsV a) rfl ?_
  intro h1 ba oa x1 z1 hba
  refine gA ?_
  refine new_var (e := 24) (cellsV b) rfl ?_
  intro h2 bb ob x2 z2 hbb
  replace oa := oa.ext x2
  refine gA ?_
  refine new_var (e := 24) [.int .i64 0, .int .i64 0, .string ⟨#[]⟩] rfl ?_
  intro h3 b6 o6 x3 z3 hb6
  replace oa := oa.ext x3
  replace ob := ob.ext x3
  have x03 := (x1.trans x2).trans x3
  have hx1 := x1.1
  have hx2 := x2.1
  have soAdd : strEq ⟨#[62]⟩ ⟨#[43]⟩ = false := (strEq_lit [62] [43]).trans (by decide)
  have soSub : strEq ⟨#[62]⟩ ⟨#[45]⟩ = false := (strEq_lit [62] [45]).trans (by decide)
  have soMul : strEq ⟨#[62]⟩ ⟨#[42]⟩ = false := (strEq_lit [62] [42]).trans (by decide)
  have soDiv : strEq ⟨#[62]⟩ ⟨#[47]⟩ = false := (strEq_lit [62] [47]).trans (by decide)
  have soMod : strEq ⟨#[62]⟩ ⟨#[37]⟩ = false := (strEq_lit [62] [37]).trans (by decide)
  have soLt : strEq ⟨#[62]⟩ ⟨#[60]⟩ = false := (strEq_lit [62] [60]).trans (by decide)
  have soGt : strEq ⟨#[62]⟩ ⟨#[62]⟩ = true := (strEq_lit [62] [62]).trans (by decide)
  refine gA ?_
  refine HCall.mk ((order_spec g cl a b ha hb h3 (gl.ext x03) (r.ext x03)).mono ?_)
  rintro e h4 ⟨hn, x4⟩
  replace o6 := o6.ext x4
  have x04 := x03.trans x4
  cases hc : orderP H a b with
  | none =>
    rw [hc] at hn
    obtain ⟨n, rfl⟩ := hn
    refine gA ?_
    refine store_blk o6 (by simp) (by simp [isOne]) ?_
    intro hr fr zr orr
    replace orr : BlkW hr b6 24 (cellsV undefV) := by simpa using orr
    refine gA ?_
    exact ⟨rfl, (x04).offNew fr (by omega)⟩
  | some c =>
    rw [hc] at hn
    obtain rfl : e = _ := hn
    rcases order_vals hc with rfl | rfl | rfl
    · refine gA ?_
      refine HIdx.mk 0 rfl (by decide) ?_
      refine gA ?_
      refine HCall.mk ((otruth_spec false h4).mono ?_)
      rintro e ht ⟨rfl, xt⟩
      replace o6 := o6.ext xt
      have eb : cellsV (boolV false) = [.int .i64 2, .int .i64 0, .string ⟨#[]⟩] := rfl
      rw [eb]
      refine gA ?_
      refine store_blk o6 (by simp) (by simp [isOne]) ?_
      intro hr fr zr orr
      replace orr : BlkW hr b6 24 [.int .i64 2, .int .i64 0, .string ⟨#[]⟩] := by simpa using orr
      refine gA ?_
      exact ⟨rfl, ((x04).trans xt).offNew fr (by omega)⟩
    · refine gA ?_
      refine HCall.mk ((otruth_spec false h4).mono ?_)
      rintro e ht ⟨rfl, xt⟩
      replace o6 := o6.ext xt
      have eb : cellsV (boolV false) = [.int .i64 2, .int .i64 0, .string ⟨#[]⟩] := rfl
      rw [eb]
      refine gA ?_
      refine store_blk o6 (by simp) (by simp [isOne]) ?_
      intro hr fr zr orr
      replace orr : BlkW hr b6 24 [.int .i64 2, .int .i64 0, .string ⟨#[]⟩] := by simpa using orr
      refine gA ?_
      exact ⟨rfl, ((x04).trans xt).offNew fr (by omega)⟩
    · refine gA ?_
      refine HIdx.mk 0 rfl (by decide) ?_
      refine gA ?_
      refine HCall.mk ((otruth_spec true h4).mono ?_)
      rintro e ht ⟨rfl, xt⟩
      replace o6 := o6.ext xt
      have eb : cellsV (boolV true) = [.int .i64 2, .int .i64 1, .string ⟨#[]⟩] := rfl
      rw [eb]
      refine gA ?_
      refine store_blk o6 (by simp) (by simp [isOne]) ?_
      intro hr fr zr orr
      replace orr : BlkW hr b6 24 [.int .i64 2, .int .i64 1, .string ⟨#[]⟩] := by simpa using orr
      refine gA ?_
      exact ⟨rfl, ((x04).trans xt).offNew fr (by omega)⟩
theorem bin_le {bh : Nat} {H : PH} {Z : HZ} (g : Good H) (cl : ClsOk H) (a b : VV) (ha : VOk a) (hb : VOk b) (h : Heap) (gl : Glob h) (r : HeapR h bh H Z) :
    HCalls Tryz.prog 12 #[.pointer (some ⟨bh, 0, none⟩), .string ⟨#[60, 61]⟩, .agg (cellsV a).toArray, .agg (cellsV b).toArray] h fun e h' => e = .returned (resR (cmpR (fun c => decide (c ≤ 0)) (orderP H a b))) ∧ Ext h h' := by
  refine c12 (by simp) ?_
  refine gA ?_
  refine new_var (e := 24) (cellsV a) rfl ?_
  intro h1 ba oa x1 z1 hba
  refine gA ?_
  refine new_var (e := 24) (cellsV b) rfl ?_
  intro h2 bb ob x2 z2 hbb
  replace oa := oa.ext x2
  refine gA ?_
  refine new_var (e := 24) [.int .i64 0, .int .i64 0, .string ⟨#[]⟩] rfl ?_
  intro h3 b6 o6 x3 z3 hb6
  replace oa := oa.ext x3
  replace ob := ob.ext x3
  have x03 := (x1.trans x2).trans x3
  have hx1 := x1.1
  have hx2 := x2.1
  have soAdd : strEq ⟨#[60, 61]⟩ ⟨#[43]⟩ = false := (strEq_lit [60, 61] [43]).trans (by decide)
  have soSub : strEq ⟨#[60, 61]⟩ ⟨#[45]⟩ = false := (strEq_lit [60, 61] [45]).trans (by decide)
  have soMul : strEq ⟨#[60, 61]⟩ ⟨#[42]⟩ = false := (strEq_lit [60, 61] [42]).trans (by decide)
  have soDiv : strEq ⟨#[60, 61]⟩ ⟨#[47]⟩ = false := (strEq_lit [60, 61] [47]).trans (by decide)
  have soMod : strEq ⟨#[60, 61]⟩ ⟨#[37]⟩ = false := (strEq_lit [60, 61] [37]).trans (by decide)
  have soLt : strEq ⟨#[60, 61]⟩ ⟨#[60]⟩ = false := (strEq_lit [60, 61] [60]).trans (by decide)
  have soGt : strEq ⟨#[60, 61]⟩ ⟨#[62]⟩ = false := (strEq_lit [60, 61] [62]).trans (by decide)
  have soLe : strEq ⟨#[60, 61]⟩ ⟨#[60, 61]⟩ = true := (strEq_lit [60, 61] [60, 61]).trans (by decide)
  refine gA ?_
  refine HCall.mk ((order_spec g cl a b ha hb h3 (gl.ext x03) (r.ext x03)).mono ?_)
  rintro e h4 ⟨hn, x4⟩
  replace o6 := o6.ext x4
  have x04 := x03.trans x4
  cases hc : orderP H a b with
  | none =>
    rw [hc] at hn
    obtain ⟨n, rfl⟩ := hn
    refine gA ?_
    refine store_blk o6 (by simp) (by simp [isOne]) ?_
    intro hr fr zr orr
    replace orr : BlkW hr b6 24 (cellsV undefV) := by simpa using orr
    refine gA ?_
    exact ⟨rfl, (x04).offNew fr (by omega)⟩
  | some c =>
    rw [hc] at hn
    obtain rfl : e = _ := hn
    rcases order_vals hc with rfl | rfl | rfl
    · refine gA ?_
      refine HIdx.mk 0 rfl (by decide) ?_
      refine gA ?_
      refine HCall.mk ((otruth_spec true h4).mono ?_)
      rintro e ht ⟨rfl, xt⟩
      replace o6 := o6.ext xt
      have eb : cellsV (boolV true) = [.int .i64 2, .int .i64 1, .string ⟨#[]⟩] := rfl
      rw [eb]
      refine gA ?_
      refine store_blk o6 (by simp) (by simp [isOne]) ?_
      intro hr fr zr orr
      replace orr : BlkW hr b6 24 [.int .i64 2, .int .i64 1, .string ⟨#[]⟩] := by simpa using orr
      refine gA ?_
      exact ⟨rfl, ((x04).trans xt).offNew fr (by omega)⟩
    · refine gA ?_
      refine HCall.mk ((otruth_spec true h4).mono ?_)
      rintro e ht ⟨rfl, xt⟩
      replace o6 := o6.ext xt
      have eb : cellsV (boolV true) = [.int .i64 2, .int .i64 1, .string ⟨#[]⟩] := rfl
      rw [eb]
      refine gA ?_
      refine store_blk o6 (by simp) (by simp [isOne]) ?_
      intro hr fr zr orr
      replace orr : BlkW hr b6 24 [.int .i64 2, .int .i64 1, .string ⟨#[]⟩] := by simpa using orr
      refine gA ?_
      exact ⟨rfl, ((x04).trans xt).offNew fr (by omega)⟩
    · refine gA ?_
      refine HIdx.mk 0 rfl (by decide) ?_
      refine gA ?_
      refine HCall.mk ((otruth_spec false h4).mono ?_)
      rintro e ht ⟨rfl, xt⟩
      replace o6 := o6.ext xt
      have eb : cellsV (boolV false) = [.int .i64 2, .int .i64 0, .string ⟨#[]⟩] := rfl
      rw [eb]
      refine gA ?_
      refine store_blk o6 (by simp) (by simp [isOne]) ?_
      intro hr fr zr orr
      replace orr : BlkW hr b6 24 [.int .i64 2, .int .i64 0, .string ⟨#[]⟩] := by simpa using orr
      refine gA ?_
      exact ⟨rfl, ((x04).trans xt).offNew fr (by omega)⟩
theorem bin_ge {bh : Nat} {H : PH} {Z : HZ} (g : Good H) (cl : ClsOk H) (a b : VV) (ha : VOk a) (hb : VOk b) (h : Heap) (gl : Glob h) (r : HeapR h bh H Z) :
    HCalls Tryz.prog 12 #[.pointer (some ⟨bh, 0, none⟩), .string ⟨#[62, 61]⟩, .agg (cellsV a).toArray, .agg (cellsV b).toArray] h fun e h' => e = .returned (resR (cmpR (fun c => decide (0 ≤ c)) (orderP H a b))) ∧ Ext h h' := by
  refine c12 (by simp) ?_
  refine gA ?_
  refine new_var (e := 24) (cellsV a) rfl ?_
  intro h1 ba oa x1 z1 hba
  refine gA ?_
  refine new_var (e := 24) (cellsV b) rfl ?_
  intro h2 bb ob x2 z2 hbb
  replace oa := oa.ext x2
  refine gA ?_
  refine new_var (e := 24) [.int .i64 0, .int .i64 0, .string ⟨#[]⟩] rfl ?_
  intro h3 b6 o6 x3 z3 hb6
  replace oa := oa.ext x3
  replace ob := ob.ext x3
  have x03 := (x1.trans x2).trans x3
  have hx1 := x1.1
  have hx2 := x2.1
  have soAdd : strEq ⟨#[62, 61]⟩ ⟨#[43]⟩ = false := (strEq_lit [62, 61] [43]).trans (by decide)
  have soSub : strEq ⟨#[62, 61]⟩ ⟨#[45]⟩ = false := (strEq_lit [62, 61] [45]).trans (by decide)
  have soMul : strEq ⟨#[62, 61]⟩ ⟨#[42]⟩ = false := (strEq_lit [62, 61] [42]).trans (by decide)
  have soDiv : strEq ⟨#[62, 61]⟩ ⟨#[47]⟩ = false := (strEq_lit [62, 61] [47]).trans (by decide)
  have soMod : strEq ⟨#[62, 61]⟩ ⟨#[37]⟩ = false := (strEq_lit [62, 61] [37]).trans (by decide)
  have soLt : strEq ⟨#[62, 61]⟩ ⟨#[60]⟩ = false := (strEq_lit [62, 61] [60]).trans (by decide)
  have soGt : strEq ⟨#[62, 61]⟩ ⟨#[62]⟩ = false := (strEq_lit [62, 61] [62]).trans (by decide)
  have soLe : strEq ⟨#[62, 61]⟩ ⟨#[60, 61]⟩ = false := (strEq_lit [62, 61] [60, 61]).trans (by decide)
  have soGe : strEq ⟨#[62, 61]⟩ ⟨#[62, 61]⟩ = true := (strEq_lit [62, 61] [62, 61]).trans (by decide)
  refine gA ?_
  refine HCall.mk ((order_spec g cl a b ha hb h3 (gl.ext x03) (r.ext x03)).mono ?_)
  rintro e h4 ⟨hn, x4⟩
  replace o6 := o6.ext x4
  have x04 := x03.trans x4
  cases hc : orderP H a b with
  | none =>
    rw [hc] at hn
    obtain ⟨n, rfl⟩ := hn
    refine gA ?_
    refine store_blk o6 (by simp) (by simp [isOne]) ?_
    intro hr fr zr orr
    replace orr : BlkW hr b6 24 (cellsV undefV) := by simpa using orr
    refine gA ?_
    exact ⟨rfl, (x04).offNew fr (by omega)⟩
  | some c =>
    rw [hc] at hn
    obtain rfl : e = _ := hn
    rcases order_vals hc with rfl | rfl | rfl
    · refine gA ?_
      refine HIdx.mk 0 rfl (by decide) ?_
      refine gA ?_
      refine HCall.mk ((otruth_spec false h4).mono ?_)
      rintro e ht ⟨rfl, xt⟩
      replace o6 := o6.ext xt
      have eb : cellsV (boolV false) = [.int .i64 2, .int .i64 0, .string ⟨#[]⟩] := rfl
      rw [eb]
      refine gA ?_
      refine store_blk o6 (by simp) (by simp [isOne]) ?_
      intro hr fr zr orr
      replace orr : BlkW hr b6 24 [.int .i64 2, .int .i64 0, .string ⟨#[]⟩] := by simpa using orr
      refine gA ?_
      exact ⟨rfl, ((x04).trans xt).offNew fr (by omega)⟩
    · refine gA ?_
      refine HCall.mk ((otruth_spec true h4).mono ?_)
      rintro e ht ⟨rfl, xt⟩
      replace o6 := o6.ext xt
      have eb : cellsV (boolV true) = [.int .i64 2, .int .i64 1, .string ⟨#[]⟩] := rfl
      rw [eb]
      refine gA ?_
      refine store_blk o6 (by simp) (by simp [isOne]) ?_
      intro hr fr zr orr
      replace orr : BlkW hr b6 24 [.int .i64 2, .int .i64 1, .string ⟨#[]⟩] := by simpa using orr
      refine gA ?_
      exact ⟨rfl, ((x04).trans xt).offNew fr (by omega)⟩
    · refine gA ?_
      refine HIdx.mk 0 rfl (by decide) ?_
      refine gA ?_
      refine HCall.mk ((otruth_spec true h4).mono ?_)
      rintro e ht ⟨rfl, xt⟩
      replace o6 := o6.ext xt
      have eb : cellsV (boolV true) = [.int .i64 2, .int .i64 1, .string ⟨#[]⟩] := rfl
      rw [eb]
      refine gA ?_
      refine store_blk o6 (by simp) (by simp [isOne]) ?_
      intro hr fr zr orr
      replace orr : BlkW hr b6 24 [.int .i64 2, .int .i64 1, .string ⟨#[]⟩] := by simpa using orr
      refine gA ?_
      exact ⟨rfl, ((x04).trans xt).offNew fr (by omega)⟩
theorem bin_eq {bh : Nat} {H : PH} {Z : HZ} (g : Good H) (cl : ClsOk H) (a b : VV) (ha : VOk a) (hb : VOk b) (h : Heap) (gl : Glob h) (r : HeapR h bh H Z) :
    HCalls Tryz.prog 12 #[.pointer (some ⟨bh, 0, none⟩), .string ⟨#[61, 61]⟩, .agg (cellsV a).toArray, .agg (cellsV b).toArray] h fun e h' => e = .returned (resR (looseR (fun c => c) (looseP H a b))) ∧ Ext h h' := by
  refine c12 (by simp) ?_
  refine gA ?_
  refine new_var (e := 24) (cellsV a) rfl ?_
  intro h1 ba oa x1 z1 hba
  refine gA ?_
  refine new_var (e := 24) (cellsV b) rfl ?_
  intro h2 bb ob x2 z2 hbb
  replace oa := oa.ext x2
  refine gA ?_
  refine new_var (e := 24) [.int .i64 0, .int .i64 0, .string ⟨#[]⟩] rfl ?_
  intro h3 b6 o6 x3 z3 hb6
  replace oa := oa.ext x3
  replace ob := ob.ext x3
  have x03 := (x1.trans x2).trans x3
  have hx1 := x1.1
  have hx2 := x2.1
  have soAdd : strEq ⟨#[61, 61]⟩ ⟨#[43]⟩ = false := (strEq_lit [61, 61] [43]).trans (by decide)
  have soSub : strEq ⟨#[61, 61]⟩ ⟨#[45]⟩ = false := (strEq_lit [61, 61] [45]).trans (by decide)
  have soMul : strEq ⟨#[61, 61]⟩ ⟨#[42]⟩ = false := (strEq_lit [61, 61] [42]).trans (by decide)
  have soDiv : strEq ⟨#[61, 61]⟩ ⟨#[47]⟩ = false := (strEq_lit [61, 61] [47]).trans (by decide)
  have soMod : strEq ⟨#[61, 61]⟩ ⟨#[37]⟩ = false := (strEq_lit [61, 61] [37]).trans (by decide)
  have soLt : strEq ⟨#[61, 61]⟩ ⟨#[60]⟩ = false := (strEq_lit [61, 61] [60]).trans (by decide)
  have soGt : strEq ⟨#[61, 61]⟩ ⟨#[62]⟩ = false := (strEq_lit [61, 61] [62]).trans (by decide)
  have soLe : strEq ⟨#[61, 61]⟩ ⟨#[60, 61]⟩ = false := (strEq_lit [61, 61] [60, 61]).trans (by decide)
  have soGe : strEq ⟨#[61, 61]⟩ ⟨#[62, 61]⟩ = false := (strEq_lit [61, 61] [62, 61]).trans (by decide)
  have soEq : strEq ⟨#[61, 61]⟩ ⟨#[61, 61]⟩ = true := (strEq_lit [61, 61] [61, 61]).trans (by decide)
  refine gA ?_
  refine HCall.mk ((oloose_spec g cl a b ha hb h3 (gl.ext x03) (r.ext x03)).mono ?_)
  rintro e h4 ⟨rfl, x4⟩
  replace o6 := o6.ext x4
  have x04 := x03.trans x4
  cases looseP H a b with
  | none =>
    refine gA ?_
    refine store_blk o6 (by simp) (by simp [isOne]) ?_
    intro hr fr zr orr
    replace orr : BlkW hr b6 24 (cellsV undefV) := by simpa using orr
    refine gA ?_
    exact ⟨rfl, (x04).offNew fr (by omega)⟩
  | some c =>
    cases c
    · refine gA ?_
      refine HIdx.mk 0 rfl (by decide) ?_
      refine gA ?_
      refine HCall.mk ((otruth_spec false h4).mono ?_)
      rintro e ht ⟨rfl, xt⟩
      replace o6 := o6.ext xt
      have eb : cellsV (boolV false) = [.int .i64 2, .int .i64 0, .string ⟨#[]⟩] := rfl
      rw [eb]
      refine gA ?_
      refine store_blk o6 (by simp) (by simp [isOne]) ?_
      intro hr fr zr orr
      replace orr : BlkW hr b6 24 [.int .i64 2, .int .i64 0, .string ⟨#[]⟩] := by simpa using orr
      refine gA ?_
      exact ⟨rfl, ((x04).trans xt).offNew fr (by omega)⟩
    · refine gA ?_
      refine HIdx.mk 0 rfl (by decide) ?_
      refine gA ?_
      refine HCall.mk ((otruth_spec true h4).mono ?_)
      rintro e ht ⟨rfl, xt⟩
      replace o6 := o6.ext xt
      have eb : cellsV (boolV true) = [.int .i64 2, .int .i64 1, .string ⟨#[]⟩] := rfl
      rw [eb]
      refine gA ?_
      refine store_blk o6 (by simp) (by simp [isOne]) ?_
      intro hr fr zr orr
      replace orr : BlkW hr b6 24 [.int .i64 2, .int .i64 1, .string ⟨#[]⟩] := by simpa using orr
      refine gA ?_
      exact ⟨rfl, ((x04).trans xt).offNew fr (by omega)⟩
theorem bin_ne {bh : Nat} {H : PH} {Z : HZ} (g : Good H) (cl : ClsOk H) (a b : VV) (ha : VOk a) (hb : VOk b) (h : Heap) (gl : Glob h) (r : HeapR h bh H Z) :
    HCalls Tryz.prog 12 #[.pointer (some ⟨bh, 0, none⟩), .string ⟨#[33, 61]⟩, .agg (cellsV a).toArray, .agg (cellsV b).toArray] h fun e h' => e = .returned (resR (looseR (fun c => !c) (looseP H a b))) ∧ Ext h h' := by
  refine c12 (by simp) ?_
  refine gA ?_
  refine new_var (e := 24) (cellsV a) rfl ?_
  intro h1 ba oa x1 z1 hba
  refine gA ?_
  refine new_var (e := 24) (cellsV b) rfl ?_
  intro h2 bb ob x2 z2 hbb
  replace oa := oa.ext x2
  refine gA ?_
  refine new_var (e := 24) [.int .i64 0, .int .i64 0, .string ⟨#[]⟩] rfl ?_
  intro h3 b6 o6 x3 z3 hb6
  replace oa := oa.ext x3
  replace ob := ob.ext x3
  have x03 := (x1.trans x2).trans x3
  have hx1 := x1.1
  have hx2 := x2.1
  have soAdd : strEq ⟨#[33, 61]⟩ ⟨#[43]⟩ = false := (strEq_lit [33, 61] [43]).trans (by decide)
  have soSub : strEq ⟨#[33, 61]⟩ ⟨#[45]⟩ = false := (strEq_lit [33, 61] [45]).trans (by decide)
  have soMul : strEq ⟨#[33, 61]⟩ ⟨#[42]⟩ = false := (strEq_lit [33, 61] [42]).trans (by decide)
  have soDiv : strEq ⟨#[33, 61]⟩ ⟨#[47]⟩ = false := (strEq_lit [33, 61] [47]).trans (by decide)
  have soMod : strEq ⟨#[33, 61]⟩ ⟨#[37]⟩ = false := (strEq_lit [33, 61] [37]).trans (by decide)
  have soLt : strEq ⟨#[33, 61]⟩ ⟨#[60]⟩ = false := (strEq_lit [33, 61] [60]).trans (by decide)
  have soGt : strEq ⟨#[33, 61]⟩ ⟨#[62]⟩ = false := (strEq_lit [33, 61] [62]).trans (by decide)
  have soLe : strEq ⟨#[33, 61]⟩ ⟨#[60, 61]⟩ = false := (strEq_lit [33, 61] [60, 61]).trans (by decide)
  have soGe : strEq ⟨#[33, 61]⟩ ⟨#[62, 61]⟩ = false := (strEq_lit [33, 61] [62, 61]).trans (by decide)
  have soEq : strEq ⟨#[33, 61]⟩ ⟨#[61, 61]⟩ = false := (strEq_lit [33, 61] [61, 61]).trans (by decide)
  have soNe : strEq ⟨#[33, 61]⟩ ⟨#[33, 61]⟩ = true := (strEq_lit [33, 61] [33, 61]).trans (by decide)
  refine gA ?_
  refine HCall.mk ((oloose_spec g cl a b ha hb h3 (gl.ext x03) (r.ext x03)).mono ?_)
  rintro e h4 ⟨rfl, x4⟩
  replace o6 := o6.ext x4
  have x04 := x03.trans x4
  cases looseP H a b with
  | none =>
    refine gA ?_
    refine store_blk o6 (by simp) (by simp [isOne]) ?_
    intro hr fr zr orr
    replace orr : BlkW hr b6 24 (cellsV undefV) := by simpa using orr
    refine gA ?_
    exact ⟨rfl, (x04).offNew fr (by omega)⟩
  | some c =>
    cases c
    · refine gA ?_
      refine HIdx.mk 0 rfl (by decide) ?_
      refine gA ?_
      refine HCall.mk ((otruth_spec true h4).mono ?_)
      rintro e ht ⟨rfl, xt⟩
      replace o6 := o6.ext xt
      have eb : cellsV (boolV true) = [.int .i64 2, .int .i64 1, .string ⟨#[]⟩] := rfl
      rw [eb]
      refine gA ?_
      refine store_blk o6 (by simp) (by simp [isOne]) ?_
      intro hr fr zr orr
      replace orr : BlkW hr b6 24 [.int .i64 2, .int .i64 1, .string ⟨#[]⟩] := by simpa using orr
      refine gA ?_
      exact ⟨rfl, ((x04).trans xt).offNew fr (by omega)⟩
    · refine gA ?_
      refine HIdx.mk 0 rfl (by decide) ?_
      refine gA ?_
      refine HCall.mk ((otruth_spec false h4).mono ?_)
      rintro e ht ⟨rfl, xt⟩
      replace o6 := o6.ext xt
      have eb : cellsV (boolV false) = [.int .i64 2, .int .i64 0, .string ⟨#[]⟩] := rfl
      rw [eb]
      refine gA ?_
      refine store_blk o6 (by simp) (by simp [isOne]) ?_
      intro hr fr zr orr
      replace orr : BlkW hr b6 24 [.int .i64 2, .int .i64 0, .string ⟨#[]⟩] := by simpa using orr
      refine gA ?_
      exact ⟨rfl, ((x04).trans xt).offNew fr (by omega)⟩
theorem bin_same {bh : Nat} {H : PH} {Z : HZ} (g : Good H) (cl : ClsOk H) (a b : VV) (ha : VOk a) (hb : VOk b) (h : Heap) (gl : Glob h) (r : HeapR h bh H Z) :
    HCalls Tryz.prog 12 #[.pointer (some ⟨bh, 0, none⟩), .string ⟨#[61, 61, 61]⟩, .agg (cellsV a).toArray, .agg (cellsV b).toArray] h fun e h' => e = .returned (resR (boolV (vEq a b), 0)) ∧ Ext h h' := by
  refine c12 (by simp) ?_
  refine gA ?_
  refine new_var (e := 24) (cellsV a) rfl ?_
  intro h1 ba oa x1 z1 hba
  refine gA ?_
  refine new_var (e := 24) (cellsV b) rfl ?_
  intro h2 bb ob x2 z2 hbb
  replace oa := oa.ext x2
  refine gA ?_
  refine new_var (e := 24) [.int .i64 0, .int .i64 0, .string ⟨#[]⟩] rfl ?_
  intro h3 b6 o6 x3 z3 hb6
  replace oa := oa.ext x3
  replace ob := ob.ext x3
  have x03 := (x1.trans x2).trans x3
  have hx1 := x1.1
  have hx2 := x2.1
  have soAdd : strEq ⟨#[61, 61, 61]⟩ ⟨#[43]⟩ = false := (strEq_lit [61, 61, 61] [43]).trans (by decide)
  have soSub : strEq ⟨#[61, 61, 61]⟩ ⟨#[45]⟩ = false := (strEq_lit [61, 61, 61] [45]).trans (by decide)
  have soMul : strEq ⟨#[61, 61, 61]⟩ ⟨#[42]⟩ = false := (strEq_lit [61, 61, 61] [42]).trans (by decide)
  have soDiv : strEq ⟨#[61, 61, 61]⟩ ⟨#[47]⟩ = false := (strEq_lit [61, 61, 61] [47]).trans (by decide)
  have soMod : strEq ⟨#[61, 61, 61]⟩ ⟨#[37]⟩ = false := (strEq_lit [61, 61, 61] [37]).trans (by decide)
  have soLt : strEq ⟨#[61, 61, 61]⟩ ⟨#[60]⟩ = false := (strEq_lit [61, 61, 61] [60]).trans (by decide)
  have soGt : strEq ⟨#[61, 61, 61]⟩ ⟨#[62]⟩ = false := (strEq_lit [61, 61, 61] [62]).trans (by decide)
  have soLe : strEq ⟨#[61, 61, 61]⟩ ⟨#[60, 61]⟩ = false := (strEq_lit [61, 61, 61] [60, 61]).trans (by decide)
  have soGe : strEq ⟨#[61, 61, 61]⟩ ⟨#[62, 61]⟩ = false := (strEq_lit [61, 61, 61] [62, 61]).trans (by decide)
  have soEq : strEq ⟨#[61, 61, 61]⟩ ⟨#[61, 61]⟩ = false := (strEq_lit [61, 61, 61] [61, 61]).trans (by decide)
  have soNe : strEq ⟨#[61, 61, 61]⟩ ⟨#[33, 61]⟩ = false := (strEq_lit [61, 61, 61] [33, 61]).trans (by decide)
  have soSame : strEq ⟨#[61, 61, 61]⟩ ⟨#[61, 61, 61]⟩ = true := (strEq_lit [61, 61, 61] [61, 61, 61]).trans (by decide)
  refine gA ?_
  refine HIdx.mk 0 rfl (by decide) ?_
  refine gA ?_
  refine raw_eqV a b rfl rfl rfl ?_
  cases vEq a b
  · refine gA ?_
    refine HCall.mk ((otruth_spec false h3).mono ?_)
    rintro e ht ⟨rfl, xt⟩
    replace o6 := o6.ext xt
    have eb : cellsV (boolV false) = [.int .i64 2, .int .i64 0, .string ⟨#[]⟩] := rfl
    rw [eb]
    refine gA ?_
    refine store_blk o6 (by simp) (by simp [isOne]) ?_
    intro hr fr zr orr
    replace orr : BlkW hr b6 24 [.int .i64 2, .int .i64 0, .string ⟨#[]⟩] := by simpa using orr
    refine gA ?_
    exact ⟨rfl, ((x03).trans xt).offNew fr (by omega)⟩
  · refine gA ?_
    refine HCall.mk ((otruth_spec true h3).mono ?_)
    rintro e ht ⟨rfl, xt⟩
    replace o6 := o6.ext xt
    have eb : cellsV (boolV true) = [.int .i64 2, .int .i64 1, .string ⟨#[]⟩] := rfl
    rw [eb]
    refine gA ?_
    refine store_blk o6 (by simp) (by simp [isOne]) ?_
    intro hr fr zr orr
    replace orr : BlkW hr b6 24 [.int .i64 2, .int .i64 1, .string ⟨#[]⟩] := by simpa using orr
    refine gA ?_
    exact ⟨rfl, ((x03).trans xt).offNew fr (by omega)⟩
theorem bin_diff {bh : Nat} {H : PH} {Z : HZ} (g : Good H) (cl : ClsOk H) (a b : VV) (ha : VOk a) (hb : VOk b) (h : Heap) (gl : Glob h) (r : HeapR h bh H Z) :
    HCalls Tryz.prog 12 #[.pointer (some ⟨bh, 0, none⟩), .string ⟨#[33, 61, 61]⟩, .agg (cellsV a).toArray, .agg (cellsV b).toArray] h fun e h' => e = .returned (resR (boolV (!vEq a b), 0)) ∧ Ext h h' := by
  refine c12 (by simp) ?_
  refine gA ?_
  refine new_var (e := 24) (cellsV a) rfl ?_
  intro h1 ba oa x1 z1 hba
  refine gA ?_
  refine new_var (e := 24) (cellsV b) rfl ?_
  intro h2 bb ob x2 z2 hbb
  replace oa := oa.ext x2
  refine gA ?_
  refine new_var (e := 24) [.int .i64 0, .int .i64 0, .string ⟨#[]⟩] rfl ?_
  intro h3 b6 o6 x3 z3 hb6
  replace oa := oa.ext x3
  replace ob := ob.ext x3
  have x03 := (x1.trans x2).trans x3
  have hx1 := x1.1
  have hx2 := x2.1
  have soAdd : strEq ⟨#[33, 61, 61]⟩ ⟨#[43]⟩ = false := (strEq_lit [33, 61, 61] [43]).trans (by decide)
  have soSub : strEq ⟨#[33, 61, 61]⟩ ⟨#[45]⟩ = false := (strEq_lit [33, 61, 61] [45]).trans (by decide)
  have soMul : strEq ⟨#[33, 61, 61]⟩ ⟨#[42]⟩ = false := (strEq_lit [33, 61, 61] [42]).trans (by decide)
  have soDiv : strEq ⟨#[33, 61, 61]⟩ ⟨#[47]⟩ = false := (strEq_lit [33, 61, 61] [47]).trans (by decide)
  have soMod : strEq ⟨#[33, 61, 61]⟩ ⟨#[37]⟩ = false := (strEq_lit [33, 61, 61] [37]).trans (by decide)
  have soLt : strEq ⟨#[33, 61, 61]⟩ ⟨#[60]⟩ = false := (strEq_lit [33, 61, 61] [60]).trans (by decide)
  have soGt : strEq ⟨#[33, 61, 61]⟩ ⟨#[62]⟩ = false := (strEq_lit [33, 61, 61] [62]).trans (by decide)
  have soLe : strEq ⟨#[33, 61, 61]⟩ ⟨#[60, 61]⟩ = false := (strEq_lit [33, 61, 61] [60, 61]).trans (by decide)
  have soGe : strEq ⟨#[33, 61, 61]⟩ ⟨#[62, 61]⟩ = false := (strEq_lit [33, 61, 61] [62, 61]).trans (by decide)
  have soEq : strEq ⟨#[33, 61, 61]⟩ ⟨#[61, 61]⟩ = false := (strEq_lit [33, 61, 61] [61, 61]).trans (by decide)
  have soNe : strEq ⟨#[33, 61, 61]⟩ ⟨#[33, 61]⟩ = false := (strEq_lit [33, 61, 61] [33, 61]).trans (by decide)
  have soSame : strEq ⟨#[33, 61, 61]⟩ ⟨#[61, 61, 61]⟩ = false := (strEq_lit [33, 61, 61] [61, 61, 61]).trans (by decide)
  have soDiff : strEq ⟨#[33, 61, 61]⟩ ⟨#[33, 61, 61]⟩ = true := (strEq_lit [33, 61, 61] [33, 61, 61]).trans (by decide)
  refine gA ?_
  refine HIdx.mk 0 rfl (by decide) ?_
  refine gA ?_
  refine raw_eqV a b rfl rfl rfl ?_
  cases vEq a b
  · refine gA ?_
    refine HCall.mk ((otruth_spec true h3).mono ?_)
    rintro e ht ⟨rfl, xt⟩
    replace o6 := o6.ext xt
    have eb : cellsV (boolV true) = [.int .i64 2, .int .i64 1, .string ⟨#[]⟩] := rfl
    rw [eb]
    refine gA ?_
    refine store_blk o6 (by simp) (by simp [isOne]) ?_
    intro hr fr zr orr
    replace orr : BlkW hr b6 24 [.int .i64 2, .int .i64 1, .string ⟨#[]⟩] := by simpa using orr
    refine gA ?_
    exact ⟨rfl, ((x03).trans xt).offNew fr (by omega)⟩
  · refine gA ?_
    refine HCall.mk ((otruth_spec false h3).mono ?_)
    rintro e ht ⟨rfl, xt⟩
    replace o6 := o6.ext xt
    have eb : cellsV (boolV false) = [.int .i64 2, .int .i64 0, .string ⟨#[]⟩] := rfl
    rw [eb]
    refine gA ?_
    refine store_blk o6 (by simp) (by simp [isOne]) ?_
    intro hr fr zr orr
    replace orr : BlkW hr b6 24 [.int .i64 2, .int .i64 0, .string ⟨#[]⟩] := by simpa using orr
    refine gA ?_
    exact ⟨rfl, ((x03).trans xt).offNew fr (by omega)⟩
theorem obinary_spec {bh : Nat} {H : PH} {Z : HZ} (g : Good H) (cl : ClsOk H) (op : ByteArray) (a b : VV) (ha : VOk a) (hb : VOk b) (h : Heap) (gl : Glob h) (r : HeapR h bh H Z) :
    HCalls Tryz.prog 12 #[.pointer (some ⟨bh, 0, none⟩), .string op, .agg (cellsV a).toArray, .agg (cellsV b).toArray] h fun e h' => e = .returned (resR (binaryP H op a b)) ∧ Ext h h' := by
  by_cases hcc0 : op = oAdd
  · have e : binaryP H op a b = binaryP H oAdd a b := by rw [hcc0]
    rw [e, hcc0]
    exact bin_add g cl a b ha hb h gl r
  have q0 : strEq op ⟨#[43]⟩ = false := (strEq_no _ _).2 hcc0
  by_cases hcc1 : op = oSub
  · have e : binaryP H op a b = binaryP H oSub a b := by rw [hcc1]
    rw [e, hcc1]
    exact bin_sub g cl a b ha hb h gl r
  have q1 : strEq op ⟨#[45]⟩ = false := (strEq_no _ _).2 hcc1
  by_cases hcc2 : op = oMul
  · have e : binaryP H op a b = binaryP H oMul a b := by rw [hcc2]
    rw [e, hcc2]
    exact bin_mul g cl a b ha hb h gl r
  have q2 : strEq op ⟨#[42]⟩ = false := (strEq_no _ _).2 hcc2
  by_cases hcc3 : op = oDiv
  · have e : binaryP H op a b = binaryP H oDiv a b := by rw [hcc3]
    rw [e, hcc3]
    exact bin_div g cl a b ha hb h gl r
  have q3 : strEq op ⟨#[47]⟩ = false := (strEq_no _ _).2 hcc3
  by_cases hcc4 : op = oMod
  · have e : binaryP H op a b = binaryP H oMod a b := by rw [hcc4]
    rw [e, hcc4]
    exact bin_mod g cl a b ha hb h gl r
  have q4 : strEq op ⟨#[37]⟩ = false := (strEq_no _ _).2 hcc4
  by_cases hcc5 : op = oLt
  · have e : binaryP H op a b = binaryP H oLt a b := by rw [hcc5]
    rw [e, hcc5]
    exact bin_lt g cl a b ha hb h gl r
  have q5 : strEq op ⟨#[60]⟩ = false := (strEq_no _ _).2 hcc5
  by_cases hcc6 : op = oGt
  · have e : binaryP H op a b = binaryP H oGt a b := by rw [hcc6]
    rw [e, hcc6]
    exact bin_gt g cl a b ha hb h gl r
  have q6 : strEq op ⟨#[62]⟩ = false := (strEq_no _ _).2 hcc6
  by_cases hcc7 : op = oLe
  · have e : binaryP H op a b = binaryP H oLe a b := by rw [hcc7]
    rw [e, hcc7]
    exact bin_le g cl a b ha hb h gl r
  have q7 : strEq op ⟨#[60, 61]⟩ = false := (strEq_no _ _).2 hcc7
  by_cases hcc8 : op = oGe
  · have e : binaryP H op a b = binaryP H oGe a b := by rw [hcc8]
    rw [e, hcc8]
    exact bin_ge g cl a b ha hb h gl r
  have q8 : strEq op ⟨#[62, 61]⟩ = false := (strEq_no _ _).2 hcc8
  by_cases hcc9 : op = oEq
  · have e : binaryP H op a b = binaryP H oEq a b := by rw [hcc9]
    rw [e, hcc9]
    exact bin_eq g cl a b ha hb h gl r
  have q9 : strEq op ⟨#[61, 61]⟩ = false := (strEq_no _ _).2 hcc9
  by_cases hcc10 : op = oNe
  · have e : binaryP H op a b = binaryP H oNe a b := by rw [hcc10]
    rw [e, hcc10]
    exact bin_ne g cl a b ha hb h gl r
  have q10 : strEq op ⟨#[33, 61]⟩ = false := (strEq_no _ _).2 hcc10
  by_cases hcc11 : op = oSame
  · have e : binaryP H op a b = binaryP H oSame a b := by rw [hcc11]
    rw [e, hcc11]
    exact bin_same g cl a b ha hb h gl r
  have q11 : strEq op ⟨#[61, 61, 61]⟩ = false := (strEq_no _ _).2 hcc11
  by_cases hcc12 : op = oDiff
  · have e : binaryP H op a b = binaryP H oDiff a b := by rw [hcc12]
    rw [e, hcc12]
    exact bin_diff g cl a b ha hb h gl r
  have q12 : strEq op ⟨#[33, 61, 61]⟩ = false := (strEq_no _ _).2 hcc12
  have e : binaryP H op a b = (undefV, 1) := by unfold binaryP; rw [if_neg hcc0, if_neg hcc1, if_neg hcc2, if_neg hcc3, if_neg hcc4, if_neg hcc5, if_neg hcc6, if_neg hcc7, if_neg hcc8, if_neg hcc9, if_neg hcc10, if_neg hcc11, if_neg hcc12]
  rw [e]
  refine c12 (by simp) ?_
  refine gA ?_
  refine new_var (e := 24) (cellsV a) rfl ?_
  intro h1 ba oa x1 z1 hba
  refine gA ?_
  refine new_var (e := 24) (cellsV b) rfl ?_
  intro h2 bb ob x2 z2 hbb
  replace oa := oa.ext x2
  refine gA ?_
  refine new_var (e := 24) [.int .i64 0, .int .i64 0, .string ⟨#[]⟩] rfl ?_
  intro h3 b6 o6 x3 z3 hb6
  replace oa := oa.ext x3
  replace ob := ob.ext x3
  have x03 := (x1.trans x2).trans x3
  have hx1 := x1.1
  have hx2 := x2.1
  refine gA ?_
  refine store_blk o6 (by simp) (by simp [isOne]) ?_
  intro hr fr zr orr
  replace orr : BlkW hr b6 24 (cellsV undefV) := by simpa using orr
  refine gA ?_
  exact ⟨rfl, (x03).offNew fr (by omega)⟩
set_option maxHeartbeats 16000000
abbrev RO := PO × Option Addr × Nat
abbrev cellsO (r : RO) : List Value := [.string r.1.cls, .int .i64 r.1.proto.k, .int .i64 r.1.proto.n, .string r.1.proto.s, .slice r.2.1 r.1.props.length r.2.2, .bool false, .int .i64 r.1.long, .bool true]
structure YZ where
  oa : Option Addr
  oc : Nat
  os : List RO
def roB (r : RO) : List Nat := blk r.2.1
def YZ.bs (b : Nat) (Z : YZ) : List Nat := b :: (blk Z.oa ++ Z.os.flatMap roB)
structure YR (h : Heap) (bb : Nat) (H : PH) (Z : YZ) : Prop where
  b : BlkW h bb 108 [.slice Z.oa Z.os.length Z.oc, .int .i64 H.most, .int .i64 H.used]
  o : Own h 0 105 8 Z.oa Z.os.length Z.oc (Z.os.flatMap cellsO)
  e : Z.os.map (·.1) = H.objs
  all : ∀ r ∈ Z.os, Own h 0 53 7 r.2.1 r.1.props.length r.2.2 (cellsKs r.1.props)
  nd : (Z.bs bb).Nodup
theorem YR.ext {h h' : Heap} {b : Nat} {H : PH} {Z : YZ} (x : YR h b H Z) (k : Ext h h') : YR h' b H Z := ⟨x.b.ext k, x.o.ext k, x.e, fun r hr => (x.all r hr).ext k, x.nd⟩
theorem YR.same {h h' : Heap} {b : Nat} {H : PH} {Z : YZ} (x : YR h b H Z) (k : ∀ y ∈ Z.bs b, h'[y]? = h[y]?) : YR h' b H Z :=
  ⟨x.b.of (k _ (by simp [YZ.bs])), Own.same x.o fun y hy => k y (by simp [YZ.bs, hy]), x.e, fun r hr => Own.same (x.all r hr) fun y hy => k y (by
    simp only [YZ.bs, List.mem_cons, List.mem_append, List.mem_flatMap]
    exact .inr (.inr ⟨r, hr, hy⟩)), x.nd⟩
theorem YR.lt {h : Heap} {b : Nat} {H : PH} {Z : YZ} (x : YR h b H Z) : ∀ y ∈ Z.bs b, y < h.size := by
  intro y hy
  simp only [YZ.bs, List.mem_cons, List.mem_append, List.mem_flatMap] at hy
  rcases hy with rfl | hy | ⟨r, hr, hy⟩
  · exact x.b.lt
  · obtain ⟨p, ep, rfl⟩ := blk_of hy
    exact (x.o.lt p ep).2
  · obtain ⟨p, ep, rfl⟩ := blk_of hy
    exact ((x.all r hr).lt p ep).2
theorem YR.len {h : Heap} {b : Nat} {H : PH} {Z : YZ} (x : YR h b H Z) : Z.os.length = H.objs.length := by rw [← x.e, List.length_map]
theorem YR.at {h : Heap} {b : Nat} {H : PH} {Z : YZ} (x : YR h b H Z) {i : Nat} (hi : i < H.objs.length) (hz : i < Z.os.length) : Z.os[i].1 = H.objs[i] := by
  have e := x.e
  have : (Z.os.map (·.1))[i]'(by simpa using hz) = H.objs[i] := by simp only [e]
  rw [← this, List.getElem_map]
theorem els_f {α : Type} (f : α → List Value) (h : Heap) : ∀ l : List α, Els (fun _ (p : α) cs => cs = f p) h l (l.flatMap f)
  | [] => rfl
  | p :: r => ⟨f p, r.flatMap f, rfl, rfl, els_f f h r⟩
theorem Sl.loadG {α : Type} {f : α → List Value} {s : Nat} (hf : ∀ a, (f a).length = s) {h : Heap} {a : Option Addr} {c : Nat} {l : List α} {p : Addr} {i : Nat} {K : Value → Prop} (x : Sl h s a l.length c (l.flatMap f)) (ep : a = some p) (hi : i < l.length)
    (k : K (.agg (f l[i]).toArray)) : HLoadN h (p.add (i * s)) s K :=
  Sl.loadEl (R := fun _ (p : α) cs => cs = f p) (by rintro d cs rfl; exact hf d) x (els_f f h l) ep hi (by rintro cs rfl; exact k)
theorem flat_at {α : Type} {f : α → List Value} {s : Nat} (hf : ∀ a, (f a).length = s) : ∀ (l : List α) (i j : Nat) (hi : i < l.length), j < s → (l.flatMap f)[i * s + j]? = (f l[i])[j]?
  | a :: r, 0, j, _, hj => by
    rw [List.flatMap_cons, Nat.zero_mul, Nat.zero_add, List.getElem?_append_left (by rw [hf]; exact hj)]
    try rfl
  | a :: r, i + 1, j, hi, hj => by
    rw [List.flatMap_cons, List.getElem?_append_right (by rw [hf, Nat.succ_mul]; omega), hf]
    have e : (i + 1) * s + j - s = i * s + j := by rw [Nat.succ_mul]; omega
    rw [e, flat_at hf r i j (by simpa using hi) hj]
    try rfl
theorem Sl.loadGF {α : Type} {f : α → List Value} {s : Nat} (hf : ∀ a, (f a).length = s) {h : Heap} {a : Option Addr} {c : Nat} {l : List α} {p : Addr} {i j : Nat} {v : Value} {K : Value → Prop} (x : Sl h s a l.length c (l.flatMap f)) (ep : a = some p) (hi : i < l.length) (hj : j < s) (hv : (f l[i])[j]? = some v)
    (k : K v) : HLoad h ((p.add (i * s)).add j) K := by
  refine ⟨v, ?_, k⟩
  have hle : (i + 1) * s ≤ l.length * s := Nat.mul_le_mul_right s hi
  rw [Nat.succ_mul] at hle
  rw [add_add, x.2.2.2 p ep (i * s + j) (by omega), flat_at hf l i j hi hj, hv]
theorem Sl.loadGN {α : Type} {f : α → List Value} {s : Nat} (hf : ∀ a, (f a).length = s) {h : Heap} {a : Option Addr} {c : Nat} {l : List α} {p : Addr} {i j n : Nat} {K : Value → Prop} (x : Sl h s a l.length c (l.flatMap f)) (ep : a = some p) (hi : i < l.length) (hj : j + n ≤ s)
    (k : K (.agg (((f l[i]).drop j).take n).toArray)) : HLoadN h ((p.add (i * s)).add j) n K := by
  have hle : (i + 1) * s ≤ l.length * s := Nat.mul_le_mul_right s hi
  rw [Nat.succ_mul] at hle
  have h1 := hf l[i]
  refine ⟨((f l[i]).drop j).take n, by rw [List.length_take, List.length_drop]; omega, fun q hq => ?_, k⟩
  rw [add_add, add_add, x.2.2.2 p ep (i * s + (j + q)) (by omega), flat_at hf l i (j + q) hi (by omega), List.getElem?_take, if_pos hq, List.getElem?_drop]
theorem Own.storeRow {α : Type} {f : α → List Value} {s : Nat} (hf : ∀ a, (f a).length = s) {h : Heap} {B e c i j : Nat} {a : Option Addr} {l : List α} {p : Addr} {vs : List Value} {K : Heap → Prop} (w : Own h B e s a l.length c (l.flatMap f)) (ep : a = some p) (hi : i < l.length) (y : α)
    (hy : f y = (f l[i]).take j ++ (vs ++ (f l[i]).drop (j + vs.length))) (hj : j + vs.length ≤ s) (one : ∀ v ∈ vs, isOne v = true)
    (k : ∀ h', Off p.block h h' → h'.size = h.size → Own h' B e s a (l.set i y).length c ((l.set i y).flatMap f) → K h') : HStore h ((p.add (i * s)).add j) vs K := by
  obtain ⟨h1, h2, h3, h4⟩ := w
  obtain ⟨b, spare, rfl, hb, hs, z⟩ := h4 p ep
  have hl := flat_get hf l
  rw [add_mk, Nat.zero_add, add_mk]
  have hle : (i + 1) * s ≤ l.length * s := Nat.mul_le_mul_right s hi
  rw [Nat.succ_mul] at hle
  refine store_blk z (by rw [List.length_append]; omega) one ?_
  intro h' g z2 y'
  have e : (l.flatMap f ++ spare).take (i * s + j) ++ (vs ++ (l.flatMap f ++ spare).drop (i * s + j + vs.length)) = (l.set i y).flatMap f ++ spare := by
    have e1 : l.flatMap f = (l.take i).flatMap f ++ (f l[i] ++ (l.drop (i + 1)).flatMap f) := by
      conv => lhs; rw [← List.take_append_drop i l, List.drop_eq_getElem_cons hi, List.flatMap_append]
      rfl
    have e2 : (l.set i y).flatMap f = (l.take i).flatMap f ++ (f y ++ (l.drop (i + 1)).flatMap f) := by
      rw [List.set_eq_take_append_cons_drop, if_pos hi, List.flatMap_append]
      try rfl
    have hA : ((l.take i).flatMap f).length = i * s := by rw [flat_get hf, List.length_take, Nat.min_eq_left (by omega)]
    have h5 := hf l[i]
    rw [e1, e2, hy]
    generalize (l.take i).flatMap f = A at hA ⊢
    generalize (l.drop (i + 1)).flatMap f = D
    generalize f l[i] = M at h5 ⊢
    rw [← hA, List.append_assoc, List.append_assoc, List.take_length_add_append, Nat.add_assoc, List.drop_length_add_append, List.take_append_of_le_length (by omega), List.drop_append_of_le_length (by omega)]
    simp
  rw [e] at y'
  refine k h' g z2 ⟨by rw [flat_get hf], by rw [List.length_set]; exact h2, h3, fun p' ep' => ?_⟩
  rw [ep] at ep'
  cases ep'
  exact ⟨b, spare, rfl, hb, by rw [List.length_set]; exact hs, y'⟩
theorem cellsO_len (r : RO) : (cellsO r).length = 8 := rfl
theorem ro_one (r : RO) : ∀ v ∈ cellsO r, isOne v = true := by
  intro v hv
  simp only [cellsO, List.mem_cons, List.not_mem_nil, or_false] at hv
  rcases hv with rfl | rfl | rfl | rfl | rfl | rfl | rfl | rfl <;> rfl
theorem rnew_spec (h : Heap) (most : Int) (h0 : 0 ≤ most) (h1 : most ≤ 100000) : HCalls Tryz.prog 39 #[.int .i64 most] h fun e h' => ∃ b, e = .returned (.pointer (some ⟨b, 0, none⟩)) ∧ YR h' b ⟨[], most, 0⟩ ⟨none, 0, []⟩ ∧ h.size ≤ b ∧ Ext h h' := by
  refine c39 (by simp) ?_
  refine gA ?_
  refine new_var (e := 108) [.slice none 0 0, .int .i64 (if 100000 < (if 0 > most then 0 else most) then 100000 else (if 0 > most then 0 else most)), .int .i64 0] rfl ?_
  intro h1 b o1 x1 z1 hb
  have e : (if 100000 < (if 0 > most then 0 else most) then 100000 else (if 0 > most then 0 else most)) = most := by split <;> split at * <;> omega
  rw [e] at o1
  refine gA ?_
  exact ⟨b, rfl, ⟨o1, Own.nil _ _ _ _, rfl, fun r hr => by simp at hr, by simp [YZ.bs, blk]⟩, by omega, x1⟩
theorem rtake_spec {h : Heap} {b : Nat} {H : PH} {Z : YZ} (x : YR h b H Z) (hm : i64 H.most) (hu : 0 ≤ H.used) (hmu : H.used ≤ 1000000) :
    HCalls Tryz.prog 80 #[.pointer (some ⟨b, 0, none⟩)] h fun e h' => (H.most - H.used < 1 ∧ e = .returned (.bool false) ∧ h' = h) ∨ (¬ H.most - H.used < 1 ∧ e = .returned (.bool true) ∧ YR h' b ⟨H.objs, H.most, H.used + 1⟩ Z ∧ Off b h h') := by
  have o := x.b
  refine c80 (by simp) ?_
  by_cases hc : H.used ≥ H.most
  · have q : decide (H.used ≥ H.most) = true := decide_eq_true hc
    refine gA ?_
    exact .inl ⟨by omega, rfl, rfl⟩
  · have q : decide (H.used ≥ H.most) = false := decide_eq_false hc
    refine gA ?_
    refine blk_st (o := 2) (v := .int .i64 (H.used + 1)) o (by simp) rfl ?_
    intro h1 f1 z1 o1
    refine gA ?_
    have nd := x.nd
    rw [YZ.bs, List.nodup_cons] at nd
    have k : ∀ y ∈ (blk Z.oa ++ Z.os.flatMap roB), h1[y]? = h[y]? := fun y hy => f1.2 y (x.lt y (by rw [YZ.bs]; exact List.mem_cons_of_mem _ hy)) (by rintro rfl; exact nd.1 hy)
    exact .inr ⟨by omega, rfl, ⟨o1, Own.same x.o fun y hy => k y (List.mem_append_left _ hy), x.e, fun r hr => Own.same (x.all r hr) fun y hy => k y (List.mem_append_right _ (List.mem_flatMap.2 ⟨r, hr, hy⟩)), x.nd⟩, f1⟩
def atR (o : Option Nat) : Int := match o with
  | none => -1
  | some i => (i : Int)
theorem rat_spec {h : Heap} {b : Nat} {H : PH} {Z : YZ} (x : YR h b H Z) (v : VV) (hn : i64 v.n) (hl : H.objs.length ≤ 1000000) :
    HCalls Tryz.prog 66 #[.pointer (some ⟨b, 0, none⟩), .agg (cellsV v).toArray] h fun e h' => e = .returned (.int .i64 (atR (atP H v))) ∧ Ext h h' := by
  refine c66 (by simp) ?_
  refine gA ?_
  refine new_var (e := 24) (cellsV v) rfl ?_
  intro h1 b1 o1 x1 z1 hb1
  have x' := x.ext x1
  have o := x'.b
  have hlen := x.len
  by_cases hk : v.k = 7
  · have q1 : (v.k != 7) = false := by rw [hk]; rfl
    by_cases hs : v.s = noS
    · have q2 : (!strEq v.s ⟨#[]⟩) = false := by rw [(strEq_iff _ _).2 hs]; rfl
      by_cases h2 : v.n < 1
      · have q3 : decide (v.n < 1) = true := decide_eq_true h2
        have e : atP H v = none := by unfold atP; rw [if_neg]; omega
        rw [e]
        refine gA ?_
        exact ⟨rfl, x1⟩
      · have q3 : decide (v.n < 1) = false := decide_eq_false h2
        by_cases h3 : v.n > (Z.os.length : Int)
        · have q4 : decide (v.n > (Z.os.length : Int)) = true := decide_eq_true h3
          have e : atP H v = none := by unfold atP; rw [if_neg]; omega
          rw [e]
          refine gA ?_
          exact ⟨rfl, x1⟩
        · have q4 : decide (v.n > (Z.os.length : Int)) = false := decide_eq_false h3
          have e : atP H v = some (v.n.toNat - 1) := by unfold atP; rw [if_pos ⟨hk, hs, by omega, by omega⟩]
          have en : v.n - 1 = ((v.n.toNat - 1 : Nat) : Int) := by omega
          rw [e]
          refine gA ?_
          exact ⟨by show Ending.returned (.int .i64 (v.n - 1)) = _; rw [en]; rfl, x1⟩
    · have q2 : (!strEq v.s ⟨#[]⟩) = true := by rw [(strEq_no _ _).2 hs]; rfl
      have e : atP H v = none := by unfold atP; rw [if_neg]; rintro ⟨_, h2, _⟩; exact hs h2
      rw [e]
      refine gA ?_
      exact ⟨rfl, x1⟩
  · have q1 : (v.k != 7) = true := by simp [hk]
    have e : atP H v = none := by unfold atP; rw [if_neg]; rintro ⟨h2, _⟩; exact hk h2
    rw [e]
    refine gA ?_
    exact ⟨rfl, x1⟩
theorem rnull_spec (h : Heap) : HCalls Tryz.prog 81 #[] h fun e h' => e = .returned (.agg (cellsV nullV).toArray) ∧ Ext h h' := by
  refine c81 (by simp) ?_
  refine gA ?_
  refine new_var (e := 24) [.int .i64 0, .int .i64 0, .string ⟨#[]⟩] rfl ?_
  intro h1 b1 o1 x1 z1 hb1
  refine gA ?_
  refine store_blk o1 (by simp) (by simp [isOne]) ?_
  intro h2 f2 z2 o2
  replace o2 : BlkW h2 b1 24 (cellsV nullV) := by simpa using o2
  refine gA ?_
  exact ⟨rfl, x1.offNew f2 (by omega)⟩
theorem rclass_spec {h : Heap} {b : Nat} {H : PH} {Z : YZ} (x : YR h b H Z) (v : VV) (hn : i64 v.n) (hl : H.objs.length ≤ 1000000) :
    HCalls Tryz.prog 73 #[.pointer (some ⟨b, 0, none⟩), .agg (cellsV v).toArray] h fun e h' => e = .returned (.string (clsP H v)) ∧ Ext h h' := by
  refine c73 (by simp) ?_
  refine gA ?_
  refine new_var (e := 24) (cellsV v) rfl ?_
  intro h1 b3 o3 x1 z1 hb3
  refine gA ?_
  refine HCall.mk ((rat_spec (x.ext x1) v hn hl).mono ?_)
  rintro e h2 ⟨rfl, x2⟩
  have x02 := x1.trans x2
  have x' := x.ext x02
  have o := x'.b
  have hlen := x.len
  unfold clsP
  cases ha : atP H v with
  | none =>
    rw [findP_none ha]
    refine gA ?_
    exact ⟨rfl, x02⟩
  | some i =>
    have hi := atP_lt ha
    rw [findP_some ha]
    have q : decide (atR (some i) ≥ 0) = true := decide_eq_true (by show (0 : Int) ≤ (i : Int); omega)
    refine gA ?_
    have hz : i < Z.os.length := by omega
    refine HIdx.mk i rfl hz ?_
    refine sl_some x'.o.sl hz fun p ep => ?_
    refine gA ?_
    refine Sl.loadGF cellsO_len x'.o.sl ep hz (by decide) rfl ?_
    rw [x.at hi (by omega)]
    refine gA ?_
    exact ⟨rfl, x02⟩
theorem rproto_spec {h : Heap} {b : Nat} {H : PH} {Z : YZ} (x : YR h b H Z) (v : VV) (hn : i64 v.n) (hl : H.objs.length ≤ 1000000) :
    HCalls Tryz.prog 135 #[.pointer (some ⟨b, 0, none⟩), .agg (cellsV v).toArray] h fun e h' => e = .returned (.agg (cellsV (match findP H v with | some o => o.proto | none => nullV)).toArray) ∧ Ext h h' := by
  refine c135 (by simp) ?_
  refine gA ?_
  refine new_var (e := 24) (cellsV v) rfl ?_
  intro h1 b3 o3 x1 z1 hb3
  refine gA ?_
  refine new_var (e := 24) [.int .i64 0, .int .i64 0, .string ⟨#[]⟩] rfl ?_
  intro h2 b4 o4 x2 z2 hb4
  replace o3 := o3.ext x2
  have hx1 := x1.1
  refine gA ?_
  refine HCall.mk ((rat_spec (x.ext (x1.trans x2)) v hn hl).mono ?_)
  rintro e h3 ⟨rfl, x3⟩
  replace o4 := o4.ext x3
  have x03 := (x1.trans x2).trans x3
  have x' := x.ext x03
  have o := x'.b
  have hlen := x.len
  cases ha : atP H v with
  | none =>
    rw [findP_none ha]
    refine gA ?_
    refine HCall.mk ((rnull_spec h3).mono ?_)
    rintro e h4 ⟨rfl, x4⟩
    replace o4 := o4.ext x4
    refine gA ?_
    refine store_blk o4 (by simp) (by simp [isOne]) ?_
    intro hr fr zr orr
    replace orr : BlkW hr b4 24 (cellsV nullV) := by simpa using orr
    refine gA ?_
    exact ⟨rfl, (x03.trans x4).offNew fr (by omega)⟩
  | some i =>
    have hi := atP_lt ha
    rw [findP_some ha]
    have q : decide (atR (some i) ≥ 0) = true := decide_eq_true (by show (0 : Int) ≤ (i : Int); omega)
    refine gA ?_
    have hz : i < Z.os.length := by omega
    refine HIdx.mk i rfl hz ?_
    refine sl_some x'.o.sl hz fun p ep => ?_
    refine gA ?_
    refine Sl.loadGN cellsO_len x'.o.sl ep hz (by decide) ?_
    have e1 := x.at hi (by omega)
    have ev : (((cellsO Z.os[i]).drop 1).take 3) = cellsV H.objs[i].proto := by rw [← e1]; rfl
    rw [ev]
    refine gA ?_
    refine store_blk o4 (by simp) (by simp [isOne]) ?_
    intro hr fr zr orr
    replace orr : BlkW hr b4 24 (cellsV H.objs[i].proto) := by simpa using orr
    refine gA ?_
    exact ⟨rfl, x03.offNew fr (by omega)⟩
set_option maxHeartbeats 16000000
theorem YR.nds {h : Heap} {b : Nat} {H : PH} {Z : YZ} (x : YR h b H Z) : (∀ p, Z.oa = some p → p.block ≠ b ∧ p.block ∉ Z.os.flatMap roB) ∧ b ∉ Z.os.flatMap roB ∧ (Z.os.flatMap roB).Nodup := by
  have nd := x.nd
  rw [YZ.bs, List.nodup_cons, List.nodup_append] at nd
  refine ⟨fun p ep => ⟨?_, ?_⟩, fun h => nd.1 (List.mem_append_right _ h), nd.2.2.1⟩
  · rintro rfl; exact nd.1 (List.mem_append_left _ (blk_mem ep))
  · intro hm; exact nd.2.2.2 _ (blk_mem ep) _ hm rfl
theorem findP_eq {H : PH} {v : VV} : (findP H v = none) ↔ atP H v = none := by
  constructor
  · intro h
    cases ha : atP H v with
    | none => rfl
    | some i => rw [findP_some ha] at h; cases h
  · exact findP_none
theorem rMake_spec {h : Heap} {b : Nat} {H : PH} {Z : YZ} (x : YR h b H Z) (g : Good H) (hu : 0 ≤ H.used) (cls : ByteArray) (v : VV) (hn : i64 v.n) :
    HCalls Tryz.prog 42 #[.pointer (some ⟨b, 0, none⟩), .string cls, .agg (cellsV v).toArray] h fun e h' => ∃ (w : Value) (Z' : YZ), e = .returned w ∧ YR h' b (makeP H cls v) Z' ∧ PassF (Z.bs b) (Z'.bs b) h h' := by
  have few := g.few
  have gl := g.len
  have gu := g.used
  have gm := g.most
  have hlen := x.len
  refine c42 (by simp) ?_
  refine gA ?_
  refine new_var (e := 24) (cellsV v) rfl ?_
  intro h1 b5 o5 x1 z1 hb5
  refine gA ?_
  refine new_var (e := 24) [.int .i64 0, .int .i64 0, .string ⟨#[]⟩] rfl ?_
  intro h2 b6 o6 x2 z2 hb6
  replace o5 := o5.ext x2
  have x02 := x1.trans x2
  have hx1 := x1.1
  have lb := x.b.lt
  have hlt := x.lt
  refine gA ?_
  refine HCall.mk ((rtake_spec (x.ext x02) ⟨by omega, by omega⟩ hu (by omega)).mono ?_)
  rintro e h3 (⟨hc, rfl, rfl⟩ | ⟨hc, rfl, y3, f3⟩)
  · have em : makeP H cls v = H := by unfold makeP; rw [if_pos hc]
    rw [em]
    refine gA ?_
    refine store_blk o6 (by simp) (by simp [isOne]) ?_
    intro hr fr zr orr
    replace orr : BlkW hr b6 24 (cellsV undefV) := by simpa using orr
    have xr := x02.offNew fr (by omega)
    refine gA ?_
    exact ⟨_, Z, rfl, x.ext xr, .of_ext xr⟩
  have em : makeP H cls v = ⟨H.objs ++ [⟨cls, if findP H v = none then nullV else v, [], 0⟩], H.most, H.used + 1⟩ := by unfold makeP; rw [if_neg hc]
  rw [em]
  replace o5 := o5.offk f3 (by omega)
  replace o6 := o6.offk f3 (by omega)
  have l5 := o5.lt
  have l6 := o6.lt
  have hf3 := f3.1
  have P3 : PassF (Z.bs b) (Z.bs b) h h3 := (PassF.of_ext x02).trans (.of_off f3 (.inl (by simp [YZ.bs])))
  have hf : findP ⟨H.objs, H.most, H.used + 1⟩ v = findP H v := rfl
  refine gB ?_
  refine cut_rule [] (fun us h' => us = [] ∧ YR h' b ⟨H.objs, H.most, H.used + 1⟩ Z ∧ PassF (Z.bs b) (Z.bs b) h h' ∧ BlkW h' b5 24 (cellsV (if findP H v = none then nullV else v)) ∧ BlkW h' b6 24 [.int .i64 0, .int .i64 0, .string ⟨#[]⟩]) rfl ?_ ?_
  · refine gA ?_
    refine HCall.mk ((rat_spec y3 v hn few.len).mono ?_)
    rintro e h4 ⟨rfl, x4⟩
    replace o5 := o5.ext x4
    replace o6 := o6.ext x4
    have y4 := y3.ext x4
    have P4 := P3.trans (.of_ext x4)
    have hx4 := x4.1
    have ea : atP ⟨H.objs, H.most, H.used + 1⟩ v = atP H v := rfl
    rw [ea]
    cases ha : atP H v with
    | none =>
      rw [if_pos (findP_none ha)]
      refine gA ?_
      refine HCall.mk ((rnull_spec h4).mono ?_)
      rintro e h5 ⟨rfl, x5⟩
      replace o5 := o5.ext x5
      replace o6 := o6.ext x5
      refine gA ?_
      refine store_blk o5 (by simp) (by simp [isOne]) ?_
      intro hr fr zr orr
      replace orr : BlkW hr b5 24 (cellsV nullV) := by simpa using orr
      have y5 := y4.ext x5
      have hx5 := x5.1
      have nb : b5 ∉ Z.bs b := fun hm => by have := hlt _ hm; omega
      refine gA ?_
      exact ⟨rfl, y5.same fun y hy => fr.2 y (y5.lt y hy) (fun e => nb (e ▸ hy)), (P4.trans (.of_ext x5)).offNew fr (by omega), orr, o6.offk fr (by omega)⟩
    | some i =>
      have q : decide (atR (some i) < 0) = false := decide_eq_false (by show ¬ (i : Int) < 0; omega)
      have ne : ¬ findP H v = none := by rw [findP_eq, ha]; simp
      rw [if_neg ne]
      refine gA ?_
      exact ⟨rfl, y4, P4, o5, o6⟩
  generalize (if findP H v = none then nullV else v) = pv
  clear o5 o6
  intro u h4 
  rintro ⟨_, y4, P4, o5, o6⟩
  have o := y4.b
  have hp4 := P4.1
  have nds := x.nds
  have hlt4 := y4.lt
  let rn : RO := (⟨cls, pv, [], 0⟩, none, 0)
  refine gA ?_
  refine new_own (e := 105) 8 1 (cellsO rn) rfl rfl ?_
  intro h5 b25 w25 x5 z5 hb25
  have y5 := y4.ext x5
  have o65 := o6.ext x5
  have hx5 := x5.1
  have P5 := P4.trans (.of_ext x5)
  refine gA ?_
  refine w25.sl.cells ?_
  refine Own.grow (m := 1) y5.o (Nat.zero_le _) rfl rfl (ro_one rn) (by omega) ?_
  intro h6 a' c' w6 g6
  have hg6 := g6.1
  have ob6 := g6.blk y5.b (fun p ep => (nds.1 p ep).1)
  have o66 := g6.blk o65 (fun p ep => by have := hlt p.block (by simp [YZ.bs, blk_mem ep]); omega)
  refine gA ?_
  refine blk_st (o := 0) (v := .slice a' (Z.os.length + 1) c') ob6 (by simp) rfl ?_
  intro h7 f7 z7 o7
  have hne6 : b6 ≠ b := by omega
  have nb6 : ∀ y ∈ Z.bs b, y ≠ b6 := fun y hy e => by have := hlt y hy; omega
  have fresh : ∀ p, a' = some p → p.block ≠ b ∧ p.block ∉ Z.os.flatMap roB := by
    intro p ep
    rcases g6.2.2 p ep with ⟨q, eq, e⟩ | hq
    · rw [e]; exact nds.1 q eq
    · refine ⟨by omega, fun hm => ?_⟩
      have := hlt p.block (by rw [YZ.bs]; exact List.mem_cons_of_mem _ (List.mem_append_right _ hm))
      omega
  have w7 := w6.off f7 (fun p ep => (fresh p ep).1)
  have keep7 : ∀ y ∈ Z.os.flatMap roB, h7[y]? = h5[y]? := by
    intro y hy
    have hyl := hlt y (by rw [YZ.bs]; exact List.mem_cons_of_mem _ (List.mem_append_right _ hy))
    rw [f7.2 y (by omega) (fun e => nds.2.1 (e ▸ hy)), g6.2.1 y (by omega) (fun p ep e => (nds.1 p ep).2 (e ▸ hy))]
  have e7 : (Z.os ++ [rn]).flatMap cellsO = Z.os.flatMap cellsO ++ cellsO rn := by rw [List.flatMap_append]; simp
  have e8 : (Z.os ++ [rn]).flatMap roB = Z.os.flatMap roB := by rw [List.flatMap_append]; simp [roB, rn, blk]
  have Y7 : YR h7 b ⟨H.objs ++ [⟨cls, pv, [], 0⟩], H.most, H.used + 1⟩ ⟨a', c', Z.os ++ [rn]⟩ := by
    refine ⟨?_, ?_, ?_, ?_, ?_⟩
    · show BlkW h7 b 108 [.slice a' (Z.os ++ [rn]).length c', _, _]
      rw [List.length_append]; exact o7
    · show Own h7 0 105 8 a' (Z.os ++ [rn]).length c' ((Z.os ++ [rn]).flatMap cellsO)
      rw [e7, List.length_append]; exact w7
    · show (Z.os ++ [rn]).map (·.1) = _
      rw [List.map_append, x.e]; rfl
    · intro r hr
      rcases List.mem_append.1 hr with hr | hr
      · exact Own.same (y5.all r hr) fun y hy => keep7 y (List.mem_flatMap.2 ⟨r, hr, hy⟩)
      · simp only [List.mem_cons, List.not_mem_nil, or_false] at hr
        subst hr
        exact Own.nil _ _ _ _
    · show (b :: (blk a' ++ (Z.os ++ [rn]).flatMap roB)).Nodup
      rw [e8]
      exact nodup_hz fresh nds.2.1 nds.2.2
  have P7 : PassF (Z.bs b) (YZ.bs b ⟨a', c', Z.os ++ [rn]⟩) h h7 := by
    have hp5 := P5.1
    refine ⟨by omega, fun y hy hn => ?_, fun y hy => ?_⟩
    · rw [f7.2 y (by omega) (fun e => hn (by rw [e]; simp [YZ.bs])), g6.2.1 y (by omega) (fun p ep e => hn (by rw [← e]; simp [YZ.bs, blk_mem ep])), P5.2.1 y hy hn]
    · simp only [YZ.bs, List.mem_cons, List.mem_append, e8] at hy
      rcases hy with rfl | hy | hy
      · exact .inl (by simp [YZ.bs])
      · obtain ⟨p, ep, rfl⟩ := blk_of hy
        rcases g6.2.2 p ep with ⟨q, eq, e⟩ | hq
        · exact .inl (by rw [e]; simp [YZ.bs, blk_mem eq])
        · exact .inr (by omega)
      · exact .inl (by simp only [YZ.bs, List.mem_cons, List.mem_append]; exact .inr (.inr hy))
  have o67 := o66.offk f7 hne6
  have oH := Y7.b
  refine gA ?_
  refine store_blk o67 (by simp) (by simp [isOne]) ?_
  intro h8 f8 z8 o8
  replace o8 : BlkW h8 b6 24 [.int .i64 7, .int .i64 (Z.os ++ [rn]).length, .string ⟨#[]⟩] := by simpa using o8
  refine gA ?_
  have l65 := o65.lt
  refine ⟨_, _, rfl, Y7.same fun y hy => f8.2 y (Y7.lt y hy) (fun e => ?_), P7.offNew f8 (by omega)⟩
  replace e : y = b6 := e
  simp only [YZ.bs, List.mem_cons, List.mem_append, e8] at hy
  rcases hy with rfl | hy | hy
  · omega
  · obtain ⟨p, ep, e9⟩ := blk_of hy
    rcases g6.2.2 p ep with ⟨q, eq, e'⟩ | hq
    · exact nb6 q.block (by simp [YZ.bs, blk_mem eq]) (by omega)
    · omega
  · exact nb6 y (by simp only [YZ.bs, List.mem_cons, List.mem_append]; exact .inr (.inr hy)) e
set_option maxHeartbeats 4000000

end Go.Proofs.YtadkdfecmpjmdaaGreatDoor.Hc
