/- The walk of the law PipePlays. -/
import Derived.Test.YtndciilmnnaemaaPipePlain
import Derived.Test.YtndciilmnnaemaaOpenB
set_option linter.unusedVariables false
set_option linter.unusedSimpArgs false
namespace Go.Proofs.Ytndciilmnnaemaa
open Go.RowKit Go.Shelf Go.Proofs.YtndciilmnnaemaaW.PrintWords Fr DqI

/-- An act of law 08: two numbers in two cells. -/
def PaK (x : Int × Int) (cs : List Value) : Prop := cs = [.int .i64 x.1, .int .i64 x.2]
theorem pa_at {w : World} {A : Option Addr} {l : List (Int × Int)} {k : Nat} (h : ReadsRow PaK 2 w A l.length l) (hk : k < l.length) : ∃ ad, A = some ad ∧ w.cell? (ad.add (k * 2)) = some (.int .i64 (l.getD k (0, 0)).1) ∧ w.cell? ⟨(ad.add (k * 2)).block, (ad.add (k * 2)).off + 1, none⟩ = some (.int .i64 (l.getD k (0, 0)).2) := by
  obtain ⟨ad, c, e, _, hR, hc⟩ := ReadsRow.get_ h (0, 0) (k : Int) (by omega) (by omega)
  rw [Int.toNat_natCast] at hR hc
  unfold PaK at hR
  subst hR
  refine ⟨ad, e, hc 0 _ rfl, ?_⟩
  have h1 := hc 1 _ rfl
  rw [← Go.Deep.add_add] at h1
  exact h1
/-- Between two acts. -/
def PlR (w W : World) (D room k : Nat) : Prop := ∃ cs p A c S recv cl, PQ w W D room cs p A c S recv cl ∧ Agree p room S recv cl ∧ S.length ≤ k
/-- Behind the reference's step: its next lies at G. -/
def PlU (w W : World) (D room k : Nat) (v : Value) : Prop := ∃ G cs p A c S recv cl, v = .pointer (some ⟨G, 0, none⟩) ∧ PU w W D G room cs p A c S recv cl ∧ Agree p room S recv cl ∧ S.length ≤ k
theorem plu_a {w W0 W1 : World} {D room k : Nat} {cs : List Value} {p : Pp} {A A' : Option Addr} {c c' : Nat} {S S' : List Int} {recv : Nat} {cl : Bool} (h : PQ w W0 D room cs p A c S recv cl) (hb : Below W0.heap.size W0 W1) (hr : RowOf W0 W1 A A' c c' S S') (hA : Agree p room S' recv cl) (hk : S'.length ≤ k) :
    PlU w (W1.alloc (.cells #[.int .i64 room, .slice A' S'.length c', .int .i64 recv, .bool cl] 102)) D room k (.pointer (some ⟨W1.heap.size, 0, none⟩)) := by
  obtain ⟨ho, ha⟩ := h.row hb hr
  exact ⟨_, cs, p, A', c', S', recv, cl, rfl, (h.grow hb).to_new ho (fun q hq => (ha q hq).1), hA, hk⟩
theorem plu_b {w W0 W1 : World} {D room k : Nat} {cs : List Value} {p : Pp} {A A' : Option Addr} {c c' : Nat} {S S' : List Int} {recv : Nat} {cl : Bool} (h : PQ w W0 D room cs p A c S recv cl)
    (hb : Below (W0.alloc (.cells #[.int .i64 0, .slice none 0 0, .int .i64 0, .bool false] 102)).drew.heap.size (W0.alloc (.cells #[.int .i64 0, .slice none 0 0, .int .i64 0, .bool false] 102)).drew W1)
    (hr : RowOf (W0.alloc (.cells #[.int .i64 0, .slice none 0 0, .int .i64 0, .bool false] 102)).drew W1 A A' c c' S S') (hA : Agree p room S' recv cl) (hk : S'.length ≤ k) :
    PlU w ((((W1.setCell ⟨W0.heap.size, 0, none⟩ (.int .i64 room)).setCell ⟨W0.heap.size, 1, none⟩ (.slice A' S'.length c')).setCell ⟨W0.heap.size, 2, none⟩ (.int .i64 recv)).setCell ⟨W0.heap.size, 3, none⟩ (.bool cl)) D room k (.pointer (some ⟨W0.heap.size, 0, none⟩)) := by
  have hz : Blk (W0.alloc (.cells #[.int .i64 0, .slice none 0 0, .int .i64 0, .bool false] 102)).drew W0.heap.size zq 102 := Blk.new W0 zq _
  have hs : (W0.alloc (.cells #[.int .i64 0, .slice none 0 0, .int .i64 0, .bool false] 102)).drew.heap.size = W0.heap.size + 1 := by simp
  have h1 : PQ w (W0.alloc (.cells #[.int .i64 0, .slice none 0 0, .int .i64 0, .bool false] 102)).drew D room cs p A c S recv cl := h.grow (((Below.refl _ W0).alloc (Nat.le_refl _) _).drew)
  obtain ⟨ho, ha⟩ := h1.row hb hr
  have hD := h.q.lt
  refine ⟨_, cs, p, A', c', S', recv, cl, rfl, (h1.grow hb).to_old (hz.below hb hz.lt) (by omega) (fun hs => by have := h.pi.is_.lt_ring _ hs; omega) h.below.size ho (fun q hq => ⟨(ha q hq).1.1, (ha q hq).1.2, fun e => ?_⟩), hA, hk⟩
  rcases (ha q hq).2 with h2 | h2
  · have := own_lt h.own q h2; omega
  · omega

set_option maxRecDepth 100000 in
set_option maxHeartbeats 2000000 in
theorem pplays_main (w : World) (room : Nat) (A0 : Option Addr) (c0 : Nat) (l : List (Int × Int)) (hr : Hid (ReadsRow PaK 2 w A0 l.length l)) (hl : l.length ≤ 200) (hr0 : 1 ≤ room) (hr1 : room ≤ 64) :
    Calls Try.prog 17 #[.int .i64 room, .slice A0 l.length c0] w fun e w' => e = .returned (.bool true) ∧ Below w.heap.size w w' := by
  have HN := Lib.hid (pnew_calls w room (by omega) (by omega))
  have HR0 := Lib.hid (fun W => rnew_calls W room)
  rw [if_neg (by omega)] at HR0
  go_enter Try.func17, Try.ntmps17
  go_wp2_with fail
  refine HN.out.mono ?_
  rintro e w1 ⟨rfl, ⟨cs0, h0⟩, hb⟩
  rw [Int.toNat_natCast] at h0
  go_wp2_with fail
  refine (HR0.out _).mono ?_
  rintro e w' ⟨rfl, rfl⟩
  clear HR0 HN
  go_wp2_with fail
  have hJ0 : PlR w (w1.alloc (.cells #[.int .i64 room, .slice none 0 0, .int .i64 0, .bool false] 102)) w1.heap.size room 0 := by
    refine ⟨cs0, _, none, 0, [], 0, false, ⟨h0.below ((Below.refl _ _).alloc (Nat.le_refl _) _), Blk.new w1 (rqs none 0 0 room 0 false) _, own_nil _ _ _ _, fun hs => ?_, fun q hq => by simp [Value.ownBlock] at hq, hb.alloc hb.size _, hb.size⟩, ⟨rfl, rfl, rfl, rfl, rfl, Nat.le_refl _⟩, Nat.le_refl _⟩
    have := h0.is_.lt_ring _ hs; omega
  generalize (w1.alloc (.cells #[.int .i64 room, .slice none 0 0, .int .i64 0, .bool false] 102)) = w2 at *
  generalize w1.heap.size = D at *
  clear h0 hb
  go_loopw [8] (fun v8 wr => ∃ k : Nat, k ≤ l.length ∧ v8 = .int .i64 k ∧ PlR w wr D room k) (fun v8 _ => l.length - (intOf v8).toNat)
  case atStart => exact ⟨0, by omega, rfl, hJ0⟩
  case round =>
    clear hJ0
    obtain ⟨k, hk, rfl, cs, p, A, c, S, recv, cl, hQ, hA, hSk⟩ := hrel
    by_cases hlt : k < l.length
    · obtain ⟨ad, rfl, e0, e1⟩ := pa_at hr.out hlt
      generalize l.getD k (0, 0) = x at *
      rcases x with ⟨d, y⟩
      simp only at e0 e1
      have E1 := Lib.hid e1
      replace e0 := pw_cell_below hQ.below e0
      replace e1 := pw_cell_below hQ.below e1
      have hlti : (k : Int) < l.length := by omega
      have hle := hA.h_le
      have hk200 : S.length ≤ 200 := by omega
      have HQ := Lib.hid hQ
      have HA := Lib.hid hA
      have hbs := hQ.below.size
      have hDlt := hQ.q.lt
      clear hQ hA
      go_upto_block 2 with (fail)
      go_cut [] (fun wc => PlR w wc D room (k + 1))
      case first =>
        by_cases hd1 : d = 1
        · subst hd1
          obtain ⟨t1, t2, t3⟩ := HA.out.recv_
          have HR := Lib.hid (precv_calls wr w.heap.size w.heap.size cs p HQ.out.pi (by have := HA.out.h_recv; omega))
          rw [t1, t2] at HR
          have HA2 := Lib.hid t3
          clear t1 t2 t3
          generalize recvP p = p' at *
          unfold enc at HR
          go_wp2_with fail
          refine HR.out.mono ?_
          rintro e w3 ⟨rfl, cs1, hP, hS⟩
          have HQ2 := Lib.hid (HQ.out.pipe hP hS)
          have HRR := Lib.hid (rrecv_of HQ2.out (by omega) hle)
          obtain ⟨⟨x0, x1, x2, x3⟩, _, _, _, _⟩ := facts4 HQ2.out.q
          clear hP hS HR
          generalize recvV S recv = vX at *
          generalize recvC S recv cl = vE at *
          have hrn : recvN S recv ≤ S.length := HA2.out.h_le
          generalize recvN S recv = recv' at *
          go_wp2_with fail
          refine HRR.out.mono ?_
          rintro e w4 ⟨rfl, hb4⟩
          have hq4 := HQ2.out.grow hb4
          have HU := Lib.hid (hq4.to_new (recv' := recv') (cl' := cl) hq4.own hq4.apart)
          clear hq4 hb4 x0 x1 x2 x3 HRR
          obtain ⟨⟨f0, f1, f2, f3⟩, v0, v1, v2, v3, x0, x1, x2, x3⟩ := HU.out.facts
          obtain ⟨⟨z0, z1, z2, z3⟩, _, _, _, _⟩ := facts4 HU.out.u
          go_wp2
          go_meet
          case rel => exact ⟨_, _, _, _, _, _, _, HU.out.put, HA2.out, by omega⟩
        · have hb1 : (d == 1) = false := by simp [hd1]
          by_cases hd2 : d = 2
          · subst hd2
            have HR := Lib.hid (pclose_calls wr w.heap.size w.heap.size cs p HQ.out.pi)
            rw [HA.out.h_cl] at HR
            have HA2 := Lib.hid HA.out.close
            go_wp2_with fail
            refine HR.out.mono ?_
            rintro e w3 ⟨rfl, cs1, hP, hS⟩
            have HQ2 := Lib.hid (HQ.out.pipe hP hS)
            have HRR := Lib.hid (rclose_of w3 A S.length c room recv cl)
            obtain ⟨⟨x0, x1, x2, x3⟩, _, _, _, _⟩ := facts4 HQ2.out.q
            clear hP hS HR
            generalize (if cl = true then (11 : Int) else 0) = vE at *
            go_wp2_with fail
            refine HRR.out.mono ?_
            rintro e w4 ⟨rfl, hb4⟩
            have hq4 := HQ2.out.grow hb4
            have HU := Lib.hid (hq4.to_new (recv' := recv) (cl' := true) hq4.own hq4.apart)
            clear hq4 hb4 x0 x1 x2 x3 HRR
            obtain ⟨⟨f0, f1, f2, f3⟩, v0, v1, v2, v3, x0, x1, x2, x3⟩ := HU.out.facts
            obtain ⟨⟨z0, z1, z2, z3⟩, _, _, _, _⟩ := facts4 HU.out.u
            go_wp2
            go_meet
            case rel => exact ⟨_, _, _, _, _, _, _, HU.out.put, HA2.out, by omega⟩
          · have hb2 : (d == 2) = false := by simp [hd2]
            obtain ⟨t1, t2⟩ := HA.out.send y
            have HR := Lib.hid (psend_of wr w.heap.size w.heap.size cs p y HQ.out.pi (by have := HA.out.len; omega) (by have := HA.out.h_sent; omega) hbs)
            rw [t1] at HR
            have HA2 := Lib.hid t2
            clear t1 t2
            generalize sendP p y = p' at *
            have hsl := sendS_len room S recv cl y
            go_wp2_with fail
            refine HR.out.mono ?_
            rintro e w3 ⟨rfl, cs1, hP, hS⟩
            have hq3 := HQ.out.pipe hP hS
            have HQ2 := Lib.hid hq3
            have e2 := pw_cell_below hq3.below E1.out
            obtain ⟨⟨x0, x1, x2, x3⟩, _, _, _, _⟩ := facts4 hq3.q
            have hq3d : PQ w w3.drew D room cs1 p' A c S recv cl := hq3.grow ((Below.refl _ w3).drew)
            have hq3a : PQ w (w3.alloc (.cells #[.int .i64 0, .slice none 0 0, .int .i64 0, .bool false] 102)).drew D room cs1 p' A c S recv cl := hq3.grow (((Below.refl _ w3).alloc (Nat.le_refl _) _).drew)
            have HS1 := Lib.hid (rsend_of hq3d (by omega) hle y)
            have HS2 := Lib.hid (rsend_of hq3a (by omega) hle y)
            have HQd := Lib.hid hq3d
            have HQa := Lib.hid hq3a
            obtain ⟨⟨y0, y1, y2, y3⟩, _, _, _, _⟩ := facts4 hq3d.q
            obtain ⟨⟨z0, z1, z2, z3⟩, _, _, _, _⟩ := facts4 hq3a.q
            have e3 : w3.drew.cell? ⟨(ad.add (k * 2)).block, (ad.add (k * 2)).off + 1, none⟩ = some (.int .i64 y) := e2
            have e4 := pw_cell_below (((Below.refl _ w3).alloc (Nat.le_refl _) (.cells #[.int .i64 0, .slice none 0 0, .int .i64 0, .bool false] 102)).drew) e2
            have hz2 : Blk (w3.alloc (.cells #[.int .i64 0, .slice none 0 0, .int .i64 0, .bool false] 102)).drew w3.heap.size zq 102 := Blk.new w3 zq _
            have HZ := Lib.hid hz2
            have hD3 := hq3.q.lt
            have hs3 := hq3.below.size
            clear hP hS HR hq3 hq3d hq3a hz2
            go_upto_region 12 with (fail)
            go_cut [18, 19] (fun v18 v19 wc => v19 = .int .i64 (sendC room S recv cl) ∧ PlU w wc D room (k + 1) v18)
            case first =>
              go_region_with (go_at_call 68; first | ((with_reducible refine HS1.out.mono ?_); rintro r W1 ⟨⟨A', c', rfl, hrow⟩, hb⟩; have hbX := hb) | ((with_reducible refine HS2.out.mono ?_); rintro r W1 ⟨⟨A', c', rfl, hrow⟩, hb⟩; have hz3 := HZ.out.below hb HZ.out.lt; obtain ⟨⟨j0, j1, j2, j3⟩, i0, i1, i2, i3⟩ := facts4 hz3))
              all_goals
                go_wp2
                go_meet
                case rel =>
                  first
                    | with_reducible exact ⟨rfl, plu_a HQd.out hb hrow HA2.out (by omega)⟩
                    | with_reducible exact ⟨rfl, plu_b HQ2.out hb hrow HA2.out (by omega)⟩
            case rest =>
              obtain ⟨rfl, G, cs2, p2, A2, c2, S2, recv2, cl2, rfl, hU, hA2, hS2⟩ := hcut
              have HU := Lib.hid hU
              have HA3 := Lib.hid hA2
              clear hU hA2
              obtain ⟨⟨f0, f1, f2, f3⟩, v0, v1, v2, v3, x0, x1, x2, x3⟩ := HU.out.facts
              obtain ⟨⟨z0, z1, z2, z3⟩, _, _, _, _⟩ := facts4 HU.out.u
              go_wp2
              go_meet
              case rel => exact ⟨_, _, _, _, _, _, _, HU.out.put, HA3.out, hS2⟩
      case rest =>
        obtain ⟨cs2, p2, A2, c2, S2, recv2, cl2, hQ, hA, hS2⟩ := hcut
        clear e0 e1 E1 HQ HA hDlt hbs hk200 hle hSk
        have HC := Lib.hid (pcounts_calls wc _ _ _ _ hQ.pi)
        have HF := Lib.hid (fun q => (⟨cs2, p2, A2, c2, S2, recv2, cl2, hQ.grow (pw_below_drewN (Below.refl _ _) q), hA, hS2⟩ : PlR w (wc.drewN q) D room (k + 1)))
        rw [hA.h_sent, hA.h_recv] at HC
        go_wp2_with fail
        refine HC.out.mono ?_
        rintro e w3 ⟨rfl, q, rfl⟩
        have hq3 := hQ.grow (pw_below_drewN (Below.refl _ _) q)
        obtain ⟨⟨x0, x1, x2, x3⟩, _, _, _, _⟩ := facts4 hq3.q
        have hF3 := fun q2 => HF.out (q + q2)
        simp only [← World.drewN_drewN] at hF3
        have HF3 := Lib.hid hF3
        have hlen := hA.len
        have hle2 := hA.h_le
        have L0 := fun q2 => plen_calls _ _ _ _ _ (hq3.pi.drewN q2)
        have L1 := fun q2 => proom_calls _ _ _ _ _ (hq3.pi.drewN q2)
        have L2 := fun q2 => pclosed_calls _ _ _ _ _ (hq3.pi.drewN q2)
        have L3 := fun q2 => pdone_calls _ _ _ _ _ (hq3.pi.drewN q2)
        rw [hA.h_room] at L1
        rw [hA.h_cl] at L2 L3
        rw [hlen] at L0 L3
        obtain ⟨n, hn⟩ : ∃ n, S2.length = n + recv2 := ⟨S2.length - recv2, by omega⟩
        have hn2 : S2.length - recv2 = n := by omega
        rw [hn2] at L0 L3
        have L0 := Lib.hid L0
        have L1 := Lib.hid L1
        have L2 := Lib.hid L2
        have L3 := Lib.hid L3
        have hsub : (S2.length : Int) - (recv2 : Int) = (n : Int) := by omega
        have hnb : (n : Int) ≤ 300 := by omega
        have hsb : (S2.length : Int) ≤ 300 := by omega
        have hrb : (recv2 : Int) ≤ 300 := by omega
        have hsub2 : IntKind.i64.wrap ((S2.length : Int) - (recv2 : Int)) = (n : Int) := by rw [hsub]; exact IntWalk.i64_in _ (by omega)
        generalize wc.drewN q = w3 at *
        clear hQ hA hq3 hlen hle2 hn hn2 HC HF hF3 hsub
        generalize S2.length = sn at *
        by_cases hz : n = 0
        · subst hz
          cases cl2
          all_goals
            go_wp2
            go_quiet ((first | (go_at_call 70; exact Calls.quiet_of_same ((L0.out _).mono fun _ _ h => ⟨h.1, h.2.symm⟩)) | (go_at_call 71; exact Calls.quiet_of_same ((L1.out _).mono fun _ _ h => ⟨h.1, h.2.symm⟩)) | (go_at_call 72; exact Calls.quiet_of_same ((L2.out _).mono fun _ _ h => ⟨h.1, h.2.symm⟩)) | (go_at_call 73; exact Calls.quiet_of_same ((L3.out _).mono fun _ _ h => ⟨h.1, h.2.symm⟩))))
            go_wp2
            go_roundw
            case rel => exact ⟨k + 1, by omega, by go_num, HF3.out _⟩
            case measure => simp [intOf]; omega
        · have hzb : ((n : Int) == 0) = false := by simp [hz]
          cases cl2
          all_goals
            go_wp2
            go_quiet ((first | (go_at_call 70; exact Calls.quiet_of_same ((L0.out _).mono fun _ _ h => ⟨h.1, h.2.symm⟩)) | (go_at_call 71; exact Calls.quiet_of_same ((L1.out _).mono fun _ _ h => ⟨h.1, h.2.symm⟩)) | (go_at_call 72; exact Calls.quiet_of_same ((L2.out _).mono fun _ _ h => ⟨h.1, h.2.symm⟩)) | (go_at_call 73; exact Calls.quiet_of_same ((L3.out _).mono fun _ _ h => ⟨h.1, h.2.symm⟩))))
            go_wp2
            go_roundw
            case rel => exact ⟨k + 1, by omega, by go_num, HF3.out _⟩
            case measure => simp [intOf]; omega
    · have hge : ¬ (k : Int) < l.length := by omega
      have hbw := Lib.hid hQ.below
      clear hQ hA
      go_wp2_with fail
      refine (works08 _).mono ?_
      rintro e w2 ⟨rfl, hb2⟩
      go_wp2
      go_ret
      exact ⟨rfl, hbw.out.trans (hb2.mono hbw.out.size)⟩
theorem opens_pa (W : World) : Opens Try.prog W 103 PaK :=
  Opens.mono (opens_pair Try.underlying103 rfl (by kernel_rfl) (by kernel_rfl) (opens_int Try.underlying3) (opens_int Try.underlying3)) (fun x => x) (by
    rintro ⟨a, b⟩ cs ⟨c, c', rfl, ⟨rfl, _⟩, ⟨rfl, _⟩⟩
    rfl)
theorem opens_PipePlays_1 (W : World) : Opens Try.prog W 97 (fun (l : List (Int × Int)) cs => ∃ A c, cs = [.slice A l.length c] ∧ l.length ≤ c ∧ ReadsRow PaK 2 W A l.length l) :=
  opens_slice Try.underlying97 (by kernel_rfl) (opens_pa W)
theorem walk_PipePlays (w : World) (room : Int) (_hroom : (Lit.int .i64 room).wf = true) (A : Option Addr) (c : Nat) (l : List (Int × Int)) (hr : ReadsRow PaK 2 w A l.length l) (hc : l.length ≤ c) :
    Calls Try.prog 17 #[.int .i64 room, .slice A l.length c] w fun e w' => e = .returned (.bool true) ∧ Below w.heap.size w w' := by
  by_cases h : room < 1 ∨ 64 < room
  · have HN := Lib.hid (pnew_no w room h)
    have HR := Lib.hid (rnew_calls w room)
    rw [if_pos h] at HR
    clear hr h _hroom
    go_enter Try.func17, Try.ntmps17
    go_wp2_with fail
    refine HN.out.mono ?_
    rintro e w' ⟨rfl, rfl⟩
    go_wp2_with fail
    refine HR.out.mono ?_
    rintro e w' ⟨rfl, rfl⟩
    go_wp2_with fail
    refine (works08 _).mono ?_
    rintro e w2 ⟨rfl, hb2⟩
    go_wp2
    go_ret
    exact ⟨rfl, hb2⟩
  · obtain ⟨n, rfl⟩ := Int.eq_ofNat_of_zero_le (show 0 ≤ room by omega)
    by_cases hl : l.length ≤ 200
    · exact pplays_main w n A c l (Lib.hid hr) hl (by omega) (by omega)
    · have HN := Lib.hid (pnew_calls w n (by omega) (by omega))
      have HR := Lib.hid (fun W => rnew_calls W n)
      rw [if_neg h] at HR
      have hgt : (200 : Int) < l.length := by omega
      clear hr h _hroom
      go_enter Try.func17, Try.ntmps17
      go_wp2_with fail
      refine HN.out.mono ?_
      rintro e w1 ⟨rfl, _, hb⟩
      go_wp2_with fail
      refine (HR.out _).mono ?_
      rintro e w' ⟨rfl, rfl⟩
      go_wp2_with fail
      refine (works08 _).mono ?_
      rintro e w2 ⟨rfl, hb2⟩
      go_wp2
      go_ret
      exact ⟨rfl, hb.trans (hb2.mono hb.size)⟩
end Go.Proofs.Ytndciilmnnaemaa
