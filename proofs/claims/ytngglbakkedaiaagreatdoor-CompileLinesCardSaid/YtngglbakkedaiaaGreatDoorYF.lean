import Derived.Test.YtngglbakkedaiaaGreatDoorYE
set_option linter.all false
namespace Go.Proofs.YtngglbakkedaiaaGreatDoor
open Go.RowKit Go.Shelf
attribute [local go_sem] Oper.semAt_some
abbrev sZY:Array Value:= #[.int .i64 0, .string ⟨#[]⟩, .slice none 0 0, .slice none 0 0, .slice none 0 0]
abbrev cRow18 (a m:Nat) (want f:Int):List Value:=[I (a:Int),I (m:Int),I want,I f]
def StOK (M:Nat):Prop:=∀(l:List LS) (v:Value) (w:World) (B:Nat→Prop) (cb a m:Nat) (want f:Int),SX B w v l→totL l<M→Row w cb 67 (cRow18 a m want f)→¬B cb→a+3*totL l≤100000000→m+totL l≤100000000→
 Calls Tryz.prog 19 #[.pointer (some ⟨cb,0,none⟩),v] w fun e w'=>e= .returned (.tuple #[])∧Row w' cb 67 (cRow18 (a+linL l) (m+(offL l 0).length) want (fnd (offL l a) m want f))∧w.grownBy w' (some cb)
theorem totL_app:∀(a b:List LS),totL (a++b)=totL a+totL b
 |[],b=>by simp [totL]
 |s::a,b=>by
  have:=totL_app a b
  rw[List.cons_append,totL,totL,this]
  omega
theorem totL_one (s:LS):totL [s]=totS s:=by simp [totL]
theorem totL_room (l:List LS) (k:Nat) (h:k<l.length):totL (l.take k)+totS l[k]≤totL l:=by
  have h1:=totL_take l (k+1)
  rw[List.take_succ_eq_append_getElem h,totL_app,totL_one] at h1
  exact h1
theorem fnd_stmt {k:Int} {n:Str} {x:List LE} {t e:List LS} (a m:Nat) (want f:Int):fnd (offS (.mk k n x t e) a) m want f=
  if k=3∨k=4 then (if e.isEmpty then fnd (offL t (a+1)) ((m+1:Nat):Int) want (if (m:Int)=want then (a:Int) else f) else
    fnd (offL e (a+2+linL t)) ((m+1+(offL t 0).length:Nat):Int) want (fnd (offL t (a+1)) ((m+1:Nat):Int) want (if (m:Int)=want then (a:Int) else f)))
  else (if (m:Int)=want then (a:Int) else f):=by
  simp only[offS]
  rw[show ∀l:List Nat,a::l=[a]++l from fun _=>rfl,fnd_app,fnd_one]
  have h1:((m:Int)+([a]:List Nat).length)=((m+1:Nat):Int):=by simp
  rw[h1]
  split
  ·split
   ·rw[List.append_nil]
   ·rw[fnd_app,offL_len t (a+1)]
    congr 1
  ·rw[fnd_nil]
theorem st_other {k:Int} {n:Str} {x:List LE} {t e:List LS} (h3:¬k=3) (h4:¬k=4) (a m:Nat) (want f:Int):linS (.mk k n x t e)=1∧(offS (.mk k n x t e) 0).length=1∧fnd (offS (.mk k n x t e) a) m want f=(if (m:Int)=want then (a:Int) else f):=by
  refine⟨?_,?_,?_⟩
  ·simp only[linS];rw[if_neg (by omega)]
  ·simp only[offS];rw[if_neg (by omega)];rfl
  ·rw[fnd_stmt,if_neg (by omega)]
theorem st_no {k:Int} {n:Str} {x:List LE} {t e:List LS} (hk:k=3∨k=4) (he:e= []) (a m:Nat) (want f:Int):linS (.mk k n x t e)=2+linL t∧(offS (.mk k n x t e) 0).length=1+(offL t 0).length∧fnd (offS (.mk k n x t e) a) m want f=fnd (offL t (a+1)) ((m+1:Nat):Int) want (if (m:Int)=want then (a:Int) else f):=by
  subst he
  refine⟨?_,?_,?_⟩
  ·simp only[linS];rw[if_pos hk];rfl
  ·simp only[offS];rw[if_pos hk,List.length_cons,List.length_append,offL_len t (0+1)];simp;omega
  ·rw[fnd_stmt,if_pos hk];rfl
theorem st_yes {k:Int} {n:Str} {x:List LE} {t e:List LS} (hk:k=3∨k=4) (he:e≠ []) (a m:Nat) (want f:Int):linS (.mk k n x t e)=3+linL t+linL e∧(offS (.mk k n x t e) 0).length=1+(offL t 0).length+(offL e 0).length∧fnd (offS (.mk k n x t e) a) m want f=fnd (offL e (a+2+linL t)) ((m+1+(offL t 0).length:Nat):Int) want (fnd (offL t (a+1)) ((m+1:Nat):Int) want (if (m:Int)=want then (a:Int) else f)):=by
  have he:¬e.isEmpty=true:=by simpa using he
  refine⟨?_,?_,?_⟩
  ·simp only[linS];rw[if_pos hk,if_neg he];omega
  ·simp only[offS];rw[if_pos hk,if_neg he,List.length_cons,List.length_append,offL_len t (0+1),offL_len e];omega
  ·rw[fnd_stmt,if_pos hk,if_neg he]
set_option maxRecDepth 100000 in
set_option maxHeartbeats 8000000 in
theorem stmts19_step (M:Nat) (hM:M≤1000000) (ih:StOK M) (l:List LS) (v:Value) (w:World) (B:Nat→Prop) (cb a0 m0:Nat) (want f0:Int) (hx:SX B w v l) (ht:totL l≤M) (hr:Row w cb 67 (cRow18 a0 m0 want f0)) (hcb:¬B cb) (ha:a0+3*totL l≤100000000) (hm:m0+totL l≤100000000):
 Calls Tryz.prog 19 #[.pointer (some ⟨cb,0,none⟩),v] w fun e w'=>e= .returned (.tuple #[])∧Row w' cb 67 (cRow18 (a0+linL l) (m0+(offL l 0).length) want (fnd (offL l a0) m0 want f0))∧w.grownBy w' (some cb):=by
  obtain ⟨aa, ac, rfl⟩ := hx.slice
  obtain ⟨N, hN⟩ : ∃ N, N = l.length := ⟨_, rfl⟩
  have hNb : N ≤ 1000000000 := by
    obtain ⟨_, _, _, _, h, -⟩ := id hx
    omega
  rw [← hN]
  obtain ⟨T, hT⟩ : ∃ T, T = totL l := ⟨_, rfl⟩
  rw [← hT] at ht ha hm
  have HX := Lib.hid hx
  have HN := Lib.hid hN
  have HI := Lib.hid ih
  have HT := Lib.hid hT
  have HR := Lib.hid hr
  have HCB := Lib.hid hcb
  clear hx hN ih hT hr hcb
  go_enter Tryz.func19, Tryz.ntmps19
  go_wp2
  go_loopg [8] N (fun gh i wr => ∃ (k a m : Nat) (f : Int), gh + k = N ∧ i = I k ∧ a ≤ 100000000 ∧ m ≤ 100000000 ∧ Hid (Row wr cb 67 (cRow18 a m want f) ∧ w.grownBy wr (some cb) ∧ a = a0 + linL (l.take k) ∧ m = m0 + (offL (l.take k) 0).length ∧ f = fnd (offL (l.take k) a0) m0 want f0))
  case atStart => exact ⟨0, a0, m0, f0, by omega, rfl, by omega, by omega, Lib.hid ⟨HR.out, ⟨rfl, rfl, rfl, Nat.le_refl _, fun _ _ _ => rfl⟩, by simp [linL], by simp [offL], by simp only [List.take_zero, offL]; rw [fnd_nil]⟩⟩
  case round =>
    obtain ⟨k, a, m, f, hg, rfl, hab, hmb, HH⟩ := hrel
    obtain ⟨wo, rfl⟩ : ∃ wo, wo = wr := ⟨_, rfl⟩
    by_cases hlt : k < N
    case neg =>
      have hltz : ¬ (k : Int) < (N : Int) := by omega
      obtain ⟨h1, h2, h3, h4, h5⟩ := id HH.out
      rw [List.take_of_length_le (by have := HN.out; omega)] at h3 h4 h5
      have HZ := Lib.hid (show Row wo cb 67 (cRow18 (a0 + linL l) (m0 + (offL l 0).length) want (fnd (offL l a0) m0 want f0)) by rw [← h3, ← h4, ← h5]; exact h1)
      have HZ2 := Lib.hid h2
      clear h1 h2 h3 h4 h5
      go_wp2
      go_end0
      exact ⟨rfl, HZ.out, HZ2.out⟩
    have hltz : (k : Int) < (N : Int) := by omega
    have hlt' : k < l.length := by rw [← HN.out]; exact hlt
    obtain ⟨d, hx2⟩ := (HX.out.grown HH.out.2.1 (fun r e hb => by cases e; exact HCB.out hb))
    obtain ⟨b, o, C, hba, hBb, hC, hrx⟩ := hx2.at hlt'
    obtain rfl := hba
    have e0 := hC 0 (by omega)
    have e1 := hC 1 (by omega)
    have e2 := hC 2 (by omega)
    have e3 := hC 3 (by omega)
    have e4 := hC 4 (by omega)
    simp only [Nat.add_zero] at e0
    obtain ⟨hev, hax, htx, hex⟩ := hrx.ev
    have hts := totL_at l k hlt'
    rw [← HT.out] at hts
    have hrm := totL_room l k hlt'
    rw [← HT.out] at hrm
    have hl0 := linL_le (l.take k)
    have ho0 := offL_le (l.take k)
    have hsq := linL_step l k hlt'
    have hoq := offL_step l k hlt' a0
    have hol := offL_step l k hlt' 0
    have hb1 := linL_le (l.take (k + 1))
    have hb2 := offL_le (l.take (k + 1))
    have hb3 := totL_take l (k + 1)
    rw [← HT.out] at hb3
    obtain ⟨x, hxk⟩ : ∃ x, x = l[k] := ⟨_, rfl⟩
    rw [← hxk] at hev htx hex hts hsq hoq hol hrm
    obtain ⟨kd, nm, ag, t, e⟩ := x
    have htx : SX B wo (C 3) t := htx
    have hex : SX B wo (C 4) e := hex
    have hts : 1 + totL t + totL e ≤ T := hts
    have hrm : totL (l.take k) + (1 + totL t + totL e) ≤ T := hrm
    have hbA : a + 3 + 3 * totL t + 3 * totL e ≤ 100000000 := by have := HH.out.2.2.1; omega
    have hbM : m + 1 + totL t + totL e ≤ 100000000 := by have := HH.out.2.2.2.1; omega
    have hev : Value.agg #[C 0, C 1, C 2, C 3, C 4] = .agg #[I kd, S nm, C 2, C 3, C 4] := hev
    obtain ⟨xa, xc, hav⟩ := hax.slice
    have h0 : C 0 = I kd := by injection hev with h; exact (Array.mk.inj h |> fun h => (List.cons.inj h).1)
    have h1 : C 1 = S nm := by injection hev with h; exact (Array.mk.inj h |> fun h => (List.cons.inj (List.cons.inj h).2).1)
    obtain ⟨ta, tc, hta⟩ := htx.slice
    obtain ⟨ea, ec, hea⟩ := hex.slice
    rw [hta] at e3 htx
    rw [hea] at e4 hex
    rw [h0] at e0
    rw [h1] at e1
    rw [hav] at e2
    obtain ⟨xn, hxn⟩ : ∃ n, n = (LE.mk 0 0 0 [] l[k].args).args.length := ⟨_, rfl⟩
    rw [← hxn] at e2
    obtain ⟨lt, hlt1⟩ : ∃ n, n = linL t := ⟨_, rfl⟩
    obtain ⟨le, hle1⟩ : ∃ n, n = linL e := ⟨_, rfl⟩
    obtain ⟨ct, hct1⟩ : ∃ n, n = (offL t 0).length := ⟨_, rfl⟩
    obtain ⟨ce, hce1⟩ : ∃ n, n = (offL e 0).length := ⟨_, rfl⟩
    obtain ⟨tn, htn⟩ : ∃ n, n = t.length := ⟨_, rfl⟩
    obtain ⟨en, hen⟩ : ∃ n, n = e.length := ⟨_, rfl⟩
    have hb4 := linL_le t
    have hb5 := linL_le e
    have hb6 := offL_le t
    have hb7 := offL_le e
    rw [← hlt1] at hb4
    rw [← hle1] at hb5
    rw [← hct1] at hb6
    rw [← hce1] at hb7
    have henb : en ≤ 1000000000 := by
      obtain ⟨_, _, _, _, h, -⟩ := id hex
      omega
    have hee : e.isEmpty = decide (en = 0) := by rw [hen]; cases e <;> simp
    have hct : ∀ W, wo.grownBy W (some cb) → ∀ (a' m' : Nat) (f' : Int), Row W cb 67 (cRow18 a' m' want f') → a' + 3 * totL t ≤ 100000000 → m' + totL t ≤ 100000000 →
        Calls Tryz.prog 19 #[.pointer (some ⟨cb, 0, none⟩), .slice ta tn tc] W fun e' w' => e' = .returned (.tuple #[]) ∧ Row w' cb 67 (cRow18 (a' + lt) (m' + ct) want (fnd (offL t a') m' want f')) ∧ W.grownBy w' (some cb) := fun W hW a' m' f' hr' h1 h2 => by
      rw [htn, hlt1, hct1]
      exact HI.out t _ W B cb a' m' want f' (htx.grown hW (fun r e hb => by cases e; exact HCB.out hb)) (by omega) hr' HCB.out h1 h2
    have hce : ∀ W, wo.grownBy W (some cb) → ∀ (a' m' : Nat) (f' : Int), Row W cb 67 (cRow18 a' m' want f') → a' + 3 * totL e ≤ 100000000 → m' + totL e ≤ 100000000 →
        Calls Tryz.prog 19 #[.pointer (some ⟨cb, 0, none⟩), .slice ea en ec] W fun e' w' => e' = .returned (.tuple #[]) ∧ Row w' cb 67 (cRow18 (a' + le) (m' + ce) want (fnd (offL e a') m' want f')) ∧ W.grownBy w' (some cb) := fun W hW a' m' f' hr' h1 h2 => by
      rw [hen, hle1, hce1]
      exact HI.out e _ W B cb a' m' want f' (hex.grown hW (fun r e hb => by cases e; exact HCB.out hb)) (by omega) hr' HCB.out h1 h2
    rw [← htn] at e3
    rw [← hen] at e4
    have HCT := Lib.hid hct
    have HCE := Lib.hid hce
    have HA := Lib.hid HH.out.2.2.1
    have HM := Lib.hid HH.out.2.2.2.1
    have HF := Lib.hid HH.out.2.2.2.2
    have HSQ0 := Lib.hid hsq
    have HOQ0 := Lib.hid hoq
    have HOL0 := Lib.hid hol
    have HEE := Lib.hid hee
    have HL1 := Lib.hid hlt1
    have HL2 := Lib.hid hct1
    have HL3 := Lib.hid hle1
    have HL4 := Lib.hid hce1
    have HNX : Hid (a + linS (.mk kd nm ag t e) = a0 + linL (l.take (k + 1)) ∧ m + (offS (.mk kd nm ag t e) 0).length = m0 + (offL (l.take (k + 1)) 0).length ∧ fnd (offS (.mk kd nm ag t e) a) m want f = fnd (offL (l.take (k + 1)) a0) m0 want f0) := by
      have h1 := HM.out
      have h2 := offL_len (l.take k) a0
      have h3 := HA.out
      refine ⟨by rw [hsq]; omega, ?_, ?_⟩
      · have h4 := offS_len (.mk kd nm ag t e) (0 + linL (l.take k))
        rw [hol, List.length_append]; omega
      · rw [hoq, fnd_app, ← HF.out, ← HA.out, show ((m0 : Int) + ((offL (l.take k) a0).length : Nat)) = (m : Int) by omega]
    have HEN : Hid ((en = 0 → e = []) ∧ (¬ en = 0 → e ≠ [])) := ⟨fun h => by rw [hen] at h; exact List.length_eq_zero_iff.1 h, fun h h' => h (by rw [hen, h']; rfl)⟩
    have HMZ : Hid (((m:Nat):Int) = (m0:Int) + ((offL (l.take k) a0).length:Nat)) := Lib.hid (by have h1 := HM.out; have h2 := offL_len (l.take k) a0; omega)
    clear hb1 hb2 hb3 hrm hl0 ho0 hC hrx hev htx hex hsq hoq hol hxk h0 h1 hta hea hct hce hee hlt1 hle1 hct1 hce1 hx2 hav htn hen hxn hax
    have HGW := Lib.hid HH.out.2.1
    have HRW := Lib.hid HH.out.1
    clear HH
    go_upto_region 3 with (refine sr 55 (.tmp 5) (.tmp 11) wo sZY hn0 ?_; rw [World.setRow_alloc_new])
    obtain ⟨w1, hw1⟩ : ∃ w1, w1 = wo.alloc (.cells #[I kd, S nm, .slice xa xn xc, .slice ta tn tc, .slice ea en ec] 55) := ⟨_, rfl⟩
    rw [← hw1]
    obtain ⟨bx, hbx⟩ : ∃ bx, bx = [I kd, S nm, .slice xa xn xc, .slice ta tn tc, .slice ea en ec] := ⟨_, rfl⟩
    have HB1 : Hid (Row w1 wo.heap.size 55 bx) := by rw [hbx]; exact aN0 hw1
    have HBW : Hid (Below wo.heap.size wo w1) := aB0 hw1
    have HR1 : Hid (Row w1 cb 67 (cRow18 a m want f)) := HRW.out.ext HBW.out
    have HG1 : Hid (wo.grownBy w1 (some cb)) := below_grown HBW.out _
    have HNE : Hid (wo.heap.size ≠ cb) := fun e => by have := HRW.out.lt; omega
    obtain ⟨rb, hrb⟩ : ∃ rb, rb = wo.heap.size := ⟨_, rfl⟩
    rw [← hrb] at HB1 HNE ⊢
    have HBX := Lib.hid hbx
    clear hw1 hrb hbx e0 e1 e2 e3 e4
    simp only [Act.put]
    refine rW0 (fun X => X.cell? ⟨cb, 1, none⟩ = some (I (m : Int)) ∧ X.cell? ⟨cb, 2, none⟩ = some (I want)) [0, 0, 0, 0, 0, 0, 0, 0, 0] (fun wd hh => ⟨row_at HR1.out hh 1, row_at HR1.out hh 2⟩) fun wd hh hgd hS => ?_
    have HRD : Hid (Row wd cb 67 (cRow18 a m want f)) := HR1.out.kept hgd (by simp)
    have HBD : Hid (Row wd rb 55 bx) := HB1.out.kept hgd (by simp)
    have HGD : Hid (wo.grownBy wd (some cb)) := grown_trans HG1.out ⟨hgd.os, hgd.tape, hgd.output, hgd.size, fun i hi _ => hgd.block i hi (by simp)⟩
    clear hh hgd HR1 HB1 HG1 HBW
    refine lkO ?_
    refine lkM ?_
    clear hS
    have e0 := HRD.out.k0
    have e1 := HRD.out.k1
    have e2 := HRD.out.k2
    have e3 := HRD.out.k3
    have g0 := HRD.out.frozen 0
    have g1 := HRD.out.frozen 1
    have g3 := HRD.out.frozen 3
    by_cases hmw : (m : Int) = want
    · have HQ3 := Lib.hid hmw
      have hbt : ((m : Int) == want) = true := by simpa using hmw
      clear hmw
      go_upto_region 5 with (fail)
      obtain ⟨w2, hw2⟩ : ∃ w2, w2 = wd.setCell ⟨cb, 3, none⟩ (I (a : Int)) := ⟨_, rfl⟩
      rw [← hw2]
      have HR2 : Hid (Row w2 cb 67 [I (a : Int), I (m : Int), I want, I (a : Int)]) := by rw [hw2]; exact HRD.out.set 3 _
      have HB2 : Hid (Row w2 rb 55 bx) := by rw [hw2]; exact HBD.out.kept (setCell_grown _ _ _ _) (fun e => HNE.out (Option.some.inj e))
      have HG2 : Hid (wo.grownBy w2 (some cb)) := by rw [hw2]; exact grown_trans HGD.out (setCell_grown _ _ _ _)
      clear hw2
      clear e0 e1 e2 e3 g0 g1 g3
      have e0 := HR2.out.k0
      have e1 := HR2.out.k1
      have e2 := HR2.out.k2
      have e3 := HR2.out.k3
      have g0 := HR2.out.frozen 0
      have g1 := HR2.out.frozen 1
      have g3 := HR2.out.frozen 3
      go_upto_region 6 with (fail)
      obtain ⟨w3, hw3⟩ : ∃ w3, w3 = w2.setCell ⟨cb, 1, none⟩ (I ((m : Int) + 1)) := ⟨_, rfl⟩
      rw [← hw3]
      have HR3 : Hid (Row w3 cb 67 [I (a : Int), I ((m : Int) + 1), I want, I ((a : Int))]) := by rw [hw3]; exact HR2.out.set 1 _
      have HB3 : Hid (Row w3 rb 55 bx) := by rw [hw3]; exact HB2.out.kept (setCell_grown _ _ _ _) (fun e => HNE.out (Option.some.inj e))
      have HG3 : Hid (wo.grownBy w3 (some cb)) := by rw [hw3]; exact grown_trans HG2.out (setCell_grown _ _ _ _)
      clear hw3
      clear e0 e1 e2 e3 g0 g1 g3
      have e0 := HR3.out.k0
      have e1 := HR3.out.k1
      have e2 := HR3.out.k2
      have e3 := HR3.out.k3
      have g0 := HR3.out.frozen 0
      have g1 := HR3.out.frozen 1
      have g3 := HR3.out.frozen 3
      go_upto_region 7 with (fail)
      obtain ⟨w4, hw4⟩ : ∃ w4, w4 = w3.setCell ⟨cb, 0, none⟩ (I ((a : Int) + 1)) := ⟨_, rfl⟩
      rw [← hw4]
      have HR4 : Hid (Row w4 cb 67 [I ((a : Int) + 1), I ((m : Int) + 1), I want, I ((a : Int))]) := by rw [hw4]; exact HR3.out.set 0 _
      have HB4 : Hid (Row w4 rb 55 bx) := by rw [hw4]; exact HB3.out.kept (setCell_grown _ _ _ _) (fun e => HNE.out (Option.some.inj e))
      have HG4 : Hid (wo.grownBy w4 (some cb)) := by rw [hw4]; exact grown_trans HG3.out (setCell_grown _ _ _ _)
      clear hw4
      clear e0 e1 e2 e3 g0 g1 g3
      have HD := HB4.out
      rw [HBX.out] at HD
      have d0 := HD.k0
      have d3 := HD.k3
      have d4 := HD.k4
      clear HD
      by_cases h3 : kd = 3
      · subst h3
        go_upto_region 8 with (fail)
        clear d0 d3 d4
        have e0 := HR4.out.k0
        have e1 := HR4.out.k1
        have e2 := HR4.out.k2
        have e3 := HR4.out.k3
        have g0 := HR4.out.frozen 0
        have g1 := HR4.out.frozen 1
        have g3 := HR4.out.frozen 3
        have HD := HB4.out
        rw [HBX.out] at HD
        have d0 := HD.k0
        have d3 := HD.k3
        have d4 := HD.k4
        clear HD
        have HR4c : Hid (Row w4 cb 67 (cRow18 (a + 1) (m + 1) want ((a : Int)))) := HR4.out
        go_upto_region 9 with (first
          | (go_at_call 19; refine (HCT.out w4 HG4.out (a + 1) (m + 1) ((a : Int)) HR4c.out (by omega) (by omega)).mono ?_; rintro e' w5 ⟨rfl, hr5, hg5⟩; have HR5 := Lib.hid hr5; have HG5 := Lib.hid (grown_trans HG4.out hg5); have HB5 := Lib.hid (HB4.out.kept hg5 (fun e => HNE.out (Option.some.inj e))); clear hr5 hg5))
        clear e0 e1 e2 e3 g0 g1 g3 d0 d3 d4
        obtain ⟨f5, hf5⟩ : ∃ f5, f5 = fnd (offL t (a + 1)) ((m + 1 : Nat) : Int) want ((a : Int)) := ⟨_, rfl⟩
        obtain ⟨a5, ha5⟩ : ∃ n, n = a + 1 + lt := ⟨_, rfl⟩
        obtain ⟨m5, hm5⟩ : ∃ n, n = m + 1 + ct := ⟨_, rfl⟩
        replace HR5 : Hid (Row w5 cb 67 (cRow18 a5 m5 want f5)) := by rw [hf5, ha5, hm5]; exact HR5.out
        have HF5 := Lib.hid hf5
        have HA5 := Lib.hid ha5
        have HM5 := Lib.hid hm5
        have hb5a : a5 + 2 + 3 * totL e ≤ 100000000 := by omega
        have hb5m : m5 + totL e ≤ 100000000 := by omega
        clear hf5 ha5 hm5
        have e0 := HR5.out.k0
        have e1 := HR5.out.k1
        have e2 := HR5.out.k2
        have e3 := HR5.out.k3
        have g0 := HR5.out.frozen 0
        have g1 := HR5.out.frozen 1
        have g3 := HR5.out.frozen 3
        have HD := HB5.out
        rw [HBX.out] at HD
        have d4 := HD.k4
        clear HD
        by_cases hen0 : en = 0
        · subst hen0
          go_wp2
          obtain ⟨w6, hw6⟩ : ∃ w6, w6 = w5.setCell ⟨cb, 0, none⟩ (I ((a5 : Int) + 1)) := ⟨_, rfl⟩
          rw [← hw6]
          have HR6 : Hid (Row w6 cb 67 [I ((a5 : Int) + 1), I (m5 : Int), I want, I f5]) := by rw [hw6]; exact HR5.out.set 0 _
          have HB6 : Hid (Row w6 rb 55 bx) := by rw [hw6]; exact HB5.out.kept (setCell_grown _ _ _ _) (fun e => HNE.out (Option.some.inj e))
          have HG6 : Hid (wo.grownBy w6 (some cb)) := by rw [hw6]; exact grown_trans HG5.out (setCell_grown _ _ _ _)
          clear hw6
          go_roundg (N - (k + 1))
          case measure => omega
          case rel =>
            have L := st_no (x := ag) (n := nm) (t := t) (e := e) (k := 3) (.inl rfl) (HEN.out.1 (by first | rfl | trivial)) a m want f
            refine ⟨k + 1, a5 + 1, m5, f5, by omega, by go_num, by omega, by omega, Lib.hid ⟨HR6.out, grown_trans HGW.out HG6.out, ?_, ?_, ?_⟩⟩
            · (rw [← HNX.out.1, L.1]) <;> (have z1 := HL1.out; have z2 := HL2.out; have z3 := HL3.out; have z4 := HL4.out; have z5 := HA5.out; have z6 := HM5.out; omega)
            · (rw [← HNX.out.2.1, L.2.1]) <;> (have z1 := HL1.out; have z2 := HL2.out; have z3 := HL3.out; have z4 := HL4.out; have z5 := HA5.out; have z6 := HM5.out; omega)
            · rw [← HNX.out.2.2, L.2.2, if_pos HQ3.out]; exact HF5.out
        · have hpos : (0 : Int) < (en : Int) := by omega
          go_upto_region 11 with (fail)
          obtain ⟨w6, hw6⟩ : ∃ w6, w6 = w5.setCell ⟨cb, 0, none⟩ (I ((a5 : Int) + 1)) := ⟨_, rfl⟩
          rw [← hw6]
          have HR6 : Hid (Row w6 cb 67 [I ((a5 : Int) + 1), I (m5 : Int), I want, I f5]) := by rw [hw6]; exact HR5.out.set 0 _
          have HB6 : Hid (Row w6 rb 55 bx) := by rw [hw6]; exact HB5.out.kept (setCell_grown _ _ _ _) (fun e => HNE.out (Option.some.inj e))
          have HG6 : Hid (wo.grownBy w6 (some cb)) := by rw [hw6]; exact grown_trans HG5.out (setCell_grown _ _ _ _)
          clear hw6
          clear e0 e1 e2 e3 g0 g1 g3 d4
          have e0 := HR6.out.k0
          have e1 := HR6.out.k1
          have e2 := HR6.out.k2
          have e3 := HR6.out.k3
          have g0 := HR6.out.frozen 0
          have g1 := HR6.out.frozen 1
          have g3 := HR6.out.frozen 3
          have HD := HB6.out
          rw [HBX.out] at HD
          have d4 := HD.k4
          clear HD
          have HR6b : Hid (Row w6 cb 67 (cRow18 (a5 + 1) m5 want f5)) := HR6.out
          go_upto_region 12 with (first
            | (go_at_call 19; refine (HCE.out w6 HG6.out (a5 + 1) m5 f5 HR6b.out (by omega) (by omega)).mono ?_; rintro e' w7 ⟨rfl, hr7, hg7⟩; have HR7 := Lib.hid hr7; have HG7 := Lib.hid (grown_trans HG6.out hg7); have HB7 := Lib.hid (HB6.out.kept hg7 (fun e => HNE.out (Option.some.inj e))); clear hr7 hg7))
          clear e0 e1 e2 e3 g0 g1 g3 d4
          obtain ⟨f7, hf7⟩ : ∃ f7, f7 = fnd (offL e (a5 + 1)) (m5 : Int) want f5 := ⟨_, rfl⟩
          obtain ⟨a7, ha7⟩ : ∃ n, n = a5 + 1 + le := ⟨_, rfl⟩
          obtain ⟨m7, hm7⟩ : ∃ n, n = m5 + ce := ⟨_, rfl⟩
          replace HR7 : Hid (Row w7 cb 67 (cRow18 a7 m7 want f7)) := by rw [hf7, ha7, hm7]; exact HR7.out
          have HF7 := Lib.hid hf7
          have HA7 := Lib.hid ha7
          have HM7 := Lib.hid hm7
          have hb7a : a7 + 1 ≤ 100000000 := by omega
          have hb7m : m7 ≤ 100000000 := by omega
          clear hf7 ha7 hm7
          have e0 := HR7.out.k0
          have e1 := HR7.out.k1
          have e2 := HR7.out.k2
          have e3 := HR7.out.k3
          have g0 := HR7.out.frozen 0
          have g1 := HR7.out.frozen 1
          have g3 := HR7.out.frozen 3
          go_wp2
          obtain ⟨w8, hw8⟩ : ∃ w8, w8 = w7.setCell ⟨cb, 0, none⟩ (I ((a7 : Int) + 1)) := ⟨_, rfl⟩
          rw [← hw8]
          have HR8 : Hid (Row w8 cb 67 [I ((a7 : Int) + 1), I (m7 : Int), I want, I f7]) := by rw [hw8]; exact HR7.out.set 0 _
          have HB8 : Hid (Row w8 rb 55 bx) := by rw [hw8]; exact HB7.out.kept (setCell_grown _ _ _ _) (fun e => HNE.out (Option.some.inj e))
          have HG8 : Hid (wo.grownBy w8 (some cb)) := by rw [hw8]; exact grown_trans HG7.out (setCell_grown _ _ _ _)
          clear hw8
          go_roundg (N - (k + 1))
          case measure => omega
          case rel =>
            have L := st_yes (x := ag) (n := nm) (t := t) (e := e) (k := 3) (.inl rfl) (HEN.out.2 (by omega)) a m want f
            refine ⟨k + 1, a7 + 1, m7, f7, by omega, by go_num, by omega, by omega, Lib.hid ⟨HR8.out, grown_trans HGW.out HG8.out, ?_, ?_, ?_⟩⟩
            · (rw [← HNX.out.1, L.1]) <;> (have z1 := HL1.out; have z2 := HL2.out; have z3 := HL3.out; have z4 := HL4.out; have z5 := HA5.out; have z6 := HM5.out; have z7 := HA7.out; have z8 := HM7.out; omega)
            · (rw [← HNX.out.2.1, L.2.1]) <;> (have z1 := HL1.out; have z2 := HL2.out; have z3 := HL3.out; have z4 := HL4.out; have z5 := HA5.out; have z6 := HM5.out; have z7 := HA7.out; have z8 := HM7.out; omega)
            · rw [← HNX.out.2.2, L.2.2, if_pos HQ3.out]; rw [HF7.out, HF5.out, show a5 + 1 = a + 2 + linL t by (have z1 := HL1.out; have z2 := HL2.out; have z3 := HL3.out; have z4 := HL4.out; have z5 := HA5.out; have z6 := HM5.out; have z7 := HA7.out; have z8 := HM7.out; omega), show m5 = m + 1 + (offL t 0).length by (have z1 := HL1.out; have z2 := HL2.out; have z3 := HL3.out; have z4 := HL4.out; have z5 := HA5.out; have z6 := HM5.out; have z7 := HA7.out; have z8 := HM7.out; omega)]
      by_cases h4 : kd = 4
      · subst h4
        go_upto_region 8 with (fail)
        clear d0 d3 d4
        have e0 := HR4.out.k0
        have e1 := HR4.out.k1
        have e2 := HR4.out.k2
        have e3 := HR4.out.k3
        have g0 := HR4.out.frozen 0
        have g1 := HR4.out.frozen 1
        have g3 := HR4.out.frozen 3
        have HD := HB4.out
        rw [HBX.out] at HD
        have d0 := HD.k0
        have d3 := HD.k3
        have d4 := HD.k4
        clear HD
        have HR4c : Hid (Row w4 cb 67 (cRow18 (a + 1) (m + 1) want ((a : Int)))) := HR4.out
        go_upto_region 9 with (first
          | (go_at_call 19; refine (HCT.out w4 HG4.out (a + 1) (m + 1) ((a : Int)) HR4c.out (by omega) (by omega)).mono ?_; rintro e' w5 ⟨rfl, hr5, hg5⟩; have HR5 := Lib.hid hr5; have HG5 := Lib.hid (grown_trans HG4.out hg5); have HB5 := Lib.hid (HB4.out.kept hg5 (fun e => HNE.out (Option.some.inj e))); clear hr5 hg5))
        clear e0 e1 e2 e3 g0 g1 g3 d0 d3 d4
        obtain ⟨f5, hf5⟩ : ∃ f5, f5 = fnd (offL t (a + 1)) ((m + 1 : Nat) : Int) want ((a : Int)) := ⟨_, rfl⟩
        obtain ⟨a5, ha5⟩ : ∃ n, n = a + 1 + lt := ⟨_, rfl⟩
        obtain ⟨m5, hm5⟩ : ∃ n, n = m + 1 + ct := ⟨_, rfl⟩
        replace HR5 : Hid (Row w5 cb 67 (cRow18 a5 m5 want f5)) := by rw [hf5, ha5, hm5]; exact HR5.out
        have HF5 := Lib.hid hf5
        have HA5 := Lib.hid ha5
        have HM5 := Lib.hid hm5
        have hb5a : a5 + 2 + 3 * totL e ≤ 100000000 := by omega
        have hb5m : m5 + totL e ≤ 100000000 := by omega
        clear hf5 ha5 hm5
        have e0 := HR5.out.k0
        have e1 := HR5.out.k1
        have e2 := HR5.out.k2
        have e3 := HR5.out.k3
        have g0 := HR5.out.frozen 0
        have g1 := HR5.out.frozen 1
        have g3 := HR5.out.frozen 3
        have HD := HB5.out
        rw [HBX.out] at HD
        have d4 := HD.k4
        clear HD
        by_cases hen0 : en = 0
        · subst hen0
          go_wp2
          obtain ⟨w6, hw6⟩ : ∃ w6, w6 = w5.setCell ⟨cb, 0, none⟩ (I ((a5 : Int) + 1)) := ⟨_, rfl⟩
          rw [← hw6]
          have HR6 : Hid (Row w6 cb 67 [I ((a5 : Int) + 1), I (m5 : Int), I want, I f5]) := by rw [hw6]; exact HR5.out.set 0 _
          have HB6 : Hid (Row w6 rb 55 bx) := by rw [hw6]; exact HB5.out.kept (setCell_grown _ _ _ _) (fun e => HNE.out (Option.some.inj e))
          have HG6 : Hid (wo.grownBy w6 (some cb)) := by rw [hw6]; exact grown_trans HG5.out (setCell_grown _ _ _ _)
          clear hw6
          go_roundg (N - (k + 1))
          case measure => omega
          case rel =>
            have L := st_no (x := ag) (n := nm) (t := t) (e := e) (k := 4) (.inr rfl) (HEN.out.1 (by first | rfl | trivial)) a m want f
            refine ⟨k + 1, a5 + 1, m5, f5, by omega, by go_num, by omega, by omega, Lib.hid ⟨HR6.out, grown_trans HGW.out HG6.out, ?_, ?_, ?_⟩⟩
            · (rw [← HNX.out.1, L.1]) <;> (have z1 := HL1.out; have z2 := HL2.out; have z3 := HL3.out; have z4 := HL4.out; have z5 := HA5.out; have z6 := HM5.out; omega)
            · (rw [← HNX.out.2.1, L.2.1]) <;> (have z1 := HL1.out; have z2 := HL2.out; have z3 := HL3.out; have z4 := HL4.out; have z5 := HA5.out; have z6 := HM5.out; omega)
            · rw [← HNX.out.2.2, L.2.2, if_pos HQ3.out]; exact HF5.out
        · have hpos : (0 : Int) < (en : Int) := by omega
          go_upto_region 11 with (fail)
          obtain ⟨w6, hw6⟩ : ∃ w6, w6 = w5.setCell ⟨cb, 0, none⟩ (I ((a5 : Int) + 1)) := ⟨_, rfl⟩
          rw [← hw6]
          have HR6 : Hid (Row w6 cb 67 [I ((a5 : Int) + 1), I (m5 : Int), I want, I f5]) := by rw [hw6]; exact HR5.out.set 0 _
          have HB6 : Hid (Row w6 rb 55 bx) := by rw [hw6]; exact HB5.out.kept (setCell_grown _ _ _ _) (fun e => HNE.out (Option.some.inj e))
          have HG6 : Hid (wo.grownBy w6 (some cb)) := by rw [hw6]; exact grown_trans HG5.out (setCell_grown _ _ _ _)
          clear hw6
          clear e0 e1 e2 e3 g0 g1 g3 d4
          have e0 := HR6.out.k0
          have e1 := HR6.out.k1
          have e2 := HR6.out.k2
          have e3 := HR6.out.k3
          have g0 := HR6.out.frozen 0
          have g1 := HR6.out.frozen 1
          have g3 := HR6.out.frozen 3
          have HD := HB6.out
          rw [HBX.out] at HD
          have d4 := HD.k4
          clear HD
          have HR6b : Hid (Row w6 cb 67 (cRow18 (a5 + 1) m5 want f5)) := HR6.out
          go_upto_region 12 with (first
            | (go_at_call 19; refine (HCE.out w6 HG6.out (a5 + 1) m5 f5 HR6b.out (by omega) (by omega)).mono ?_; rintro e' w7 ⟨rfl, hr7, hg7⟩; have HR7 := Lib.hid hr7; have HG7 := Lib.hid (grown_trans HG6.out hg7); have HB7 := Lib.hid (HB6.out.kept hg7 (fun e => HNE.out (Option.some.inj e))); clear hr7 hg7))
          clear e0 e1 e2 e3 g0 g1 g3 d4
          obtain ⟨f7, hf7⟩ : ∃ f7, f7 = fnd (offL e (a5 + 1)) (m5 : Int) want f5 := ⟨_, rfl⟩
          obtain ⟨a7, ha7⟩ : ∃ n, n = a5 + 1 + le := ⟨_, rfl⟩
          obtain ⟨m7, hm7⟩ : ∃ n, n = m5 + ce := ⟨_, rfl⟩
          replace HR7 : Hid (Row w7 cb 67 (cRow18 a7 m7 want f7)) := by rw [hf7, ha7, hm7]; exact HR7.out
          have HF7 := Lib.hid hf7
          have HA7 := Lib.hid ha7
          have HM7 := Lib.hid hm7
          have hb7a : a7 + 1 ≤ 100000000 := by omega
          have hb7m : m7 ≤ 100000000 := by omega
          clear hf7 ha7 hm7
          have e0 := HR7.out.k0
          have e1 := HR7.out.k1
          have e2 := HR7.out.k2
          have e3 := HR7.out.k3
          have g0 := HR7.out.frozen 0
          have g1 := HR7.out.frozen 1
          have g3 := HR7.out.frozen 3
          go_wp2
          obtain ⟨w8, hw8⟩ : ∃ w8, w8 = w7.setCell ⟨cb, 0, none⟩ (I ((a7 : Int) + 1)) := ⟨_, rfl⟩
          rw [← hw8]
          have HR8 : Hid (Row w8 cb 67 [I ((a7 : Int) + 1), I (m7 : Int), I want, I f7]) := by rw [hw8]; exact HR7.out.set 0 _
          have HB8 : Hid (Row w8 rb 55 bx) := by rw [hw8]; exact HB7.out.kept (setCell_grown _ _ _ _) (fun e => HNE.out (Option.some.inj e))
          have HG8 : Hid (wo.grownBy w8 (some cb)) := by rw [hw8]; exact grown_trans HG7.out (setCell_grown _ _ _ _)
          clear hw8
          go_roundg (N - (k + 1))
          case measure => omega
          case rel =>
            have L := st_yes (x := ag) (n := nm) (t := t) (e := e) (k := 4) (.inr rfl) (HEN.out.2 (by omega)) a m want f
            refine ⟨k + 1, a7 + 1, m7, f7, by omega, by go_num, by omega, by omega, Lib.hid ⟨HR8.out, grown_trans HGW.out HG8.out, ?_, ?_, ?_⟩⟩
            · (rw [← HNX.out.1, L.1]) <;> (have z1 := HL1.out; have z2 := HL2.out; have z3 := HL3.out; have z4 := HL4.out; have z5 := HA5.out; have z6 := HM5.out; have z7 := HA7.out; have z8 := HM7.out; omega)
            · (rw [← HNX.out.2.1, L.2.1]) <;> (have z1 := HL1.out; have z2 := HL2.out; have z3 := HL3.out; have z4 := HL4.out; have z5 := HA5.out; have z6 := HM5.out; have z7 := HA7.out; have z8 := HM7.out; omega)
            · rw [← HNX.out.2.2, L.2.2, if_pos HQ3.out]; rw [HF7.out, HF5.out, show a5 + 1 = a + 2 + linL t by (have z1 := HL1.out; have z2 := HL2.out; have z3 := HL3.out; have z4 := HL4.out; have z5 := HA5.out; have z6 := HM5.out; have z7 := HA7.out; have z8 := HM7.out; omega), show m5 = m + 1 + (offL t 0).length by (have z1 := HL1.out; have z2 := HL2.out; have z3 := HL3.out; have z4 := HL4.out; have z5 := HA5.out; have z6 := HM5.out; have z7 := HA7.out; have z8 := HM7.out; omega)]
      have q3 : (kd == 3) = false := by simpa using h3
      have q4 : (kd == 4) = false := by simpa using h4
      have n3 : (kd != 3) = true := by simpa using h3
      have n4 : (kd != 4) = true := by simpa using h4
      have HK3 := Lib.hid h3
      have HK4 := Lib.hid h4
      clear h3 h4
      go_wp2
      go_roundg (N - (k + 1))
      case measure => omega
      case rel =>
        have L := st_other (x := ag) (n := nm) (t := t) (e := e) HK3.out HK4.out a m want f
        refine ⟨k + 1, a + 1, m + 1, (a : Int), by omega, by go_num, by omega, by omega, Lib.hid ⟨HR4.out, grown_trans HGW.out HG4.out, ?_, ?_, ?_⟩⟩
        · (rw [← HNX.out.1, L.1]) <;> (have z1 := HL1.out; have z2 := HL2.out; have z3 := HL3.out; have z4 := HL4.out; omega)
        · (rw [← HNX.out.2.1, L.2.1]) <;> (have z1 := HL1.out; have z2 := HL2.out; have z3 := HL3.out; have z4 := HL4.out; omega)
        · rw [← HNX.out.2.2, L.2.2, if_pos HQ3.out]
    · have HQ3 := Lib.hid hmw
      have hbt : ((m : Int) == want) = false := by simpa using hmw
      clear hmw
      go_upto_region 5 with (fail)
      obtain ⟨w2, hw2⟩ : ∃ w2, w2 = wd := ⟨_, rfl⟩
      have HR2 : Hid (Row w2 cb 67 (cRow18 a m want f)) := by rw [hw2]; exact HRD.out
      have HB2 : Hid (Row w2 rb 55 bx) := by rw [hw2]; exact HBD.out
      have HG2 : Hid (wo.grownBy w2 (some cb)) := by rw [hw2]; exact HGD.out
      rw [← hw2]
      clear hw2 e0 e1 e2 e3 g0 g1 g3
      have e0 := HR2.out.k0
      have e1 := HR2.out.k1
      have e2 := HR2.out.k2
      have e3 := HR2.out.k3
      have g0 := HR2.out.frozen 0
      have g1 := HR2.out.frozen 1
      have g3 := HR2.out.frozen 3
      go_upto_region 6 with (fail)
      obtain ⟨w3, hw3⟩ : ∃ w3, w3 = w2.setCell ⟨cb, 1, none⟩ (I ((m : Int) + 1)) := ⟨_, rfl⟩
      rw [← hw3]
      have HR3 : Hid (Row w3 cb 67 [I (a : Int), I ((m : Int) + 1), I want, I (f)]) := by rw [hw3]; exact HR2.out.set 1 _
      have HB3 : Hid (Row w3 rb 55 bx) := by rw [hw3]; exact HB2.out.kept (setCell_grown _ _ _ _) (fun e => HNE.out (Option.some.inj e))
      have HG3 : Hid (wo.grownBy w3 (some cb)) := by rw [hw3]; exact grown_trans HG2.out (setCell_grown _ _ _ _)
      clear hw3
      clear e0 e1 e2 e3 g0 g1 g3
      have e0 := HR3.out.k0
      have e1 := HR3.out.k1
      have e2 := HR3.out.k2
      have e3 := HR3.out.k3
      have g0 := HR3.out.frozen 0
      have g1 := HR3.out.frozen 1
      have g3 := HR3.out.frozen 3
      go_upto_region 7 with (fail)
      obtain ⟨w4, hw4⟩ : ∃ w4, w4 = w3.setCell ⟨cb, 0, none⟩ (I ((a : Int) + 1)) := ⟨_, rfl⟩
      rw [← hw4]
      have HR4 : Hid (Row w4 cb 67 [I ((a : Int) + 1), I ((m : Int) + 1), I want, I (f)]) := by rw [hw4]; exact HR3.out.set 0 _
      have HB4 : Hid (Row w4 rb 55 bx) := by rw [hw4]; exact HB3.out.kept (setCell_grown _ _ _ _) (fun e => HNE.out (Option.some.inj e))
      have HG4 : Hid (wo.grownBy w4 (some cb)) := by rw [hw4]; exact grown_trans HG3.out (setCell_grown _ _ _ _)
      clear hw4
      clear e0 e1 e2 e3 g0 g1 g3
      have HD := HB4.out
      rw [HBX.out] at HD
      have d0 := HD.k0
      have d3 := HD.k3
      have d4 := HD.k4
      clear HD
      by_cases h3 : kd = 3
      · subst h3
        go_upto_region 8 with (fail)
        clear d0 d3 d4
        have e0 := HR4.out.k0
        have e1 := HR4.out.k1
        have e2 := HR4.out.k2
        have e3 := HR4.out.k3
        have g0 := HR4.out.frozen 0
        have g1 := HR4.out.frozen 1
        have g3 := HR4.out.frozen 3
        have HD := HB4.out
        rw [HBX.out] at HD
        have d0 := HD.k0
        have d3 := HD.k3
        have d4 := HD.k4
        clear HD
        have HR4c : Hid (Row w4 cb 67 (cRow18 (a + 1) (m + 1) want (f))) := HR4.out
        go_upto_region 9 with (first
          | (go_at_call 19; refine (HCT.out w4 HG4.out (a + 1) (m + 1) (f) HR4c.out (by omega) (by omega)).mono ?_; rintro e' w5 ⟨rfl, hr5, hg5⟩; have HR5 := Lib.hid hr5; have HG5 := Lib.hid (grown_trans HG4.out hg5); have HB5 := Lib.hid (HB4.out.kept hg5 (fun e => HNE.out (Option.some.inj e))); clear hr5 hg5))
        clear e0 e1 e2 e3 g0 g1 g3 d0 d3 d4
        obtain ⟨f5, hf5⟩ : ∃ f5, f5 = fnd (offL t (a + 1)) ((m + 1 : Nat) : Int) want (f) := ⟨_, rfl⟩
        obtain ⟨a5, ha5⟩ : ∃ n, n = a + 1 + lt := ⟨_, rfl⟩
        obtain ⟨m5, hm5⟩ : ∃ n, n = m + 1 + ct := ⟨_, rfl⟩
        replace HR5 : Hid (Row w5 cb 67 (cRow18 a5 m5 want f5)) := by rw [hf5, ha5, hm5]; exact HR5.out
        have HF5 := Lib.hid hf5
        have HA5 := Lib.hid ha5
        have HM5 := Lib.hid hm5
        have hb5a : a5 + 2 + 3 * totL e ≤ 100000000 := by omega
        have hb5m : m5 + totL e ≤ 100000000 := by omega
        clear hf5 ha5 hm5
        have e0 := HR5.out.k0
        have e1 := HR5.out.k1
        have e2 := HR5.out.k2
        have e3 := HR5.out.k3
        have g0 := HR5.out.frozen 0
        have g1 := HR5.out.frozen 1
        have g3 := HR5.out.frozen 3
        have HD := HB5.out
        rw [HBX.out] at HD
        have d4 := HD.k4
        clear HD
        by_cases hen0 : en = 0
        · subst hen0
          go_wp2
          obtain ⟨w6, hw6⟩ : ∃ w6, w6 = w5.setCell ⟨cb, 0, none⟩ (I ((a5 : Int) + 1)) := ⟨_, rfl⟩
          rw [← hw6]
          have HR6 : Hid (Row w6 cb 67 [I ((a5 : Int) + 1), I (m5 : Int), I want, I f5]) := by rw [hw6]; exact HR5.out.set 0 _
          have HB6 : Hid (Row w6 rb 55 bx) := by rw [hw6]; exact HB5.out.kept (setCell_grown _ _ _ _) (fun e => HNE.out (Option.some.inj e))
          have HG6 : Hid (wo.grownBy w6 (some cb)) := by rw [hw6]; exact grown_trans HG5.out (setCell_grown _ _ _ _)
          clear hw6
          go_roundg (N - (k + 1))
          case measure => omega
          case rel =>
            have L := st_no (x := ag) (n := nm) (t := t) (e := e) (k := 3) (.inl rfl) (HEN.out.1 (by first | rfl | trivial)) a m want f
            refine ⟨k + 1, a5 + 1, m5, f5, by omega, by go_num, by omega, by omega, Lib.hid ⟨HR6.out, grown_trans HGW.out HG6.out, ?_, ?_, ?_⟩⟩
            · (rw [← HNX.out.1, L.1]) <;> (have z1 := HL1.out; have z2 := HL2.out; have z3 := HL3.out; have z4 := HL4.out; have z5 := HA5.out; have z6 := HM5.out; omega)
            · (rw [← HNX.out.2.1, L.2.1]) <;> (have z1 := HL1.out; have z2 := HL2.out; have z3 := HL3.out; have z4 := HL4.out; have z5 := HA5.out; have z6 := HM5.out; omega)
            · rw [← HNX.out.2.2, L.2.2, if_neg HQ3.out]; exact HF5.out
        · have hpos : (0 : Int) < (en : Int) := by omega
          go_upto_region 11 with (fail)
          obtain ⟨w6, hw6⟩ : ∃ w6, w6 = w5.setCell ⟨cb, 0, none⟩ (I ((a5 : Int) + 1)) := ⟨_, rfl⟩
          rw [← hw6]
          have HR6 : Hid (Row w6 cb 67 [I ((a5 : Int) + 1), I (m5 : Int), I want, I f5]) := by rw [hw6]; exact HR5.out.set 0 _
          have HB6 : Hid (Row w6 rb 55 bx) := by rw [hw6]; exact HB5.out.kept (setCell_grown _ _ _ _) (fun e => HNE.out (Option.some.inj e))
          have HG6 : Hid (wo.grownBy w6 (some cb)) := by rw [hw6]; exact grown_trans HG5.out (setCell_grown _ _ _ _)
          clear hw6
          clear e0 e1 e2 e3 g0 g1 g3 d4
          have e0 := HR6.out.k0
          have e1 := HR6.out.k1
          have e2 := HR6.out.k2
          have e3 := HR6.out.k3
          have g0 := HR6.out.frozen 0
          have g1 := HR6.out.frozen 1
          have g3 := HR6.out.frozen 3
          have HD := HB6.out
          rw [HBX.out] at HD
          have d4 := HD.k4
          clear HD
          have HR6b : Hid (Row w6 cb 67 (cRow18 (a5 + 1) m5 want f5)) := HR6.out
          go_upto_region 12 with (first
            | (go_at_call 19; refine (HCE.out w6 HG6.out (a5 + 1) m5 f5 HR6b.out (by omega) (by omega)).mono ?_; rintro e' w7 ⟨rfl, hr7, hg7⟩; have HR7 := Lib.hid hr7; have HG7 := Lib.hid (grown_trans HG6.out hg7); have HB7 := Lib.hid (HB6.out.kept hg7 (fun e => HNE.out (Option.some.inj e))); clear hr7 hg7))
          clear e0 e1 e2 e3 g0 g1 g3 d4
          obtain ⟨f7, hf7⟩ : ∃ f7, f7 = fnd (offL e (a5 + 1)) (m5 : Int) want f5 := ⟨_, rfl⟩
          obtain ⟨a7, ha7⟩ : ∃ n, n = a5 + 1 + le := ⟨_, rfl⟩
          obtain ⟨m7, hm7⟩ : ∃ n, n = m5 + ce := ⟨_, rfl⟩
          replace HR7 : Hid (Row w7 cb 67 (cRow18 a7 m7 want f7)) := by rw [hf7, ha7, hm7]; exact HR7.out
          have HF7 := Lib.hid hf7
          have HA7 := Lib.hid ha7
          have HM7 := Lib.hid hm7
          have hb7a : a7 + 1 ≤ 100000000 := by omega
          have hb7m : m7 ≤ 100000000 := by omega
          clear hf7 ha7 hm7
          have e0 := HR7.out.k0
          have e1 := HR7.out.k1
          have e2 := HR7.out.k2
          have e3 := HR7.out.k3
          have g0 := HR7.out.frozen 0
          have g1 := HR7.out.frozen 1
          have g3 := HR7.out.frozen 3
          go_wp2
          obtain ⟨w8, hw8⟩ : ∃ w8, w8 = w7.setCell ⟨cb, 0, none⟩ (I ((a7 : Int) + 1)) := ⟨_, rfl⟩
          rw [← hw8]
          have HR8 : Hid (Row w8 cb 67 [I ((a7 : Int) + 1), I (m7 : Int), I want, I f7]) := by rw [hw8]; exact HR7.out.set 0 _
          have HB8 : Hid (Row w8 rb 55 bx) := by rw [hw8]; exact HB7.out.kept (setCell_grown _ _ _ _) (fun e => HNE.out (Option.some.inj e))
          have HG8 : Hid (wo.grownBy w8 (some cb)) := by rw [hw8]; exact grown_trans HG7.out (setCell_grown _ _ _ _)
          clear hw8
          go_roundg (N - (k + 1))
          case measure => omega
          case rel =>
            have L := st_yes (x := ag) (n := nm) (t := t) (e := e) (k := 3) (.inl rfl) (HEN.out.2 (by omega)) a m want f
            refine ⟨k + 1, a7 + 1, m7, f7, by omega, by go_num, by omega, by omega, Lib.hid ⟨HR8.out, grown_trans HGW.out HG8.out, ?_, ?_, ?_⟩⟩
            · (rw [← HNX.out.1, L.1]) <;> (have z1 := HL1.out; have z2 := HL2.out; have z3 := HL3.out; have z4 := HL4.out; have z5 := HA5.out; have z6 := HM5.out; have z7 := HA7.out; have z8 := HM7.out; omega)
            · (rw [← HNX.out.2.1, L.2.1]) <;> (have z1 := HL1.out; have z2 := HL2.out; have z3 := HL3.out; have z4 := HL4.out; have z5 := HA5.out; have z6 := HM5.out; have z7 := HA7.out; have z8 := HM7.out; omega)
            · rw [← HNX.out.2.2, L.2.2, if_neg HQ3.out]; rw [HF7.out, HF5.out, show a5 + 1 = a + 2 + linL t by (have z1 := HL1.out; have z2 := HL2.out; have z3 := HL3.out; have z4 := HL4.out; have z5 := HA5.out; have z6 := HM5.out; have z7 := HA7.out; have z8 := HM7.out; omega), show m5 = m + 1 + (offL t 0).length by (have z1 := HL1.out; have z2 := HL2.out; have z3 := HL3.out; have z4 := HL4.out; have z5 := HA5.out; have z6 := HM5.out; have z7 := HA7.out; have z8 := HM7.out; omega)]
      by_cases h4 : kd = 4
      · subst h4
        go_upto_region 8 with (fail)
        clear d0 d3 d4
        have e0 := HR4.out.k0
        have e1 := HR4.out.k1
        have e2 := HR4.out.k2
        have e3 := HR4.out.k3
        have g0 := HR4.out.frozen 0
        have g1 := HR4.out.frozen 1
        have g3 := HR4.out.frozen 3
        have HD := HB4.out
        rw [HBX.out] at HD
        have d0 := HD.k0
        have d3 := HD.k3
        have d4 := HD.k4
        clear HD
        have HR4c : Hid (Row w4 cb 67 (cRow18 (a + 1) (m + 1) want (f))) := HR4.out
        go_upto_region 9 with (first
          | (go_at_call 19; refine (HCT.out w4 HG4.out (a + 1) (m + 1) (f) HR4c.out (by omega) (by omega)).mono ?_; rintro e' w5 ⟨rfl, hr5, hg5⟩; have HR5 := Lib.hid hr5; have HG5 := Lib.hid (grown_trans HG4.out hg5); have HB5 := Lib.hid (HB4.out.kept hg5 (fun e => HNE.out (Option.some.inj e))); clear hr5 hg5))
        clear e0 e1 e2 e3 g0 g1 g3 d0 d3 d4
        obtain ⟨f5, hf5⟩ : ∃ f5, f5 = fnd (offL t (a + 1)) ((m + 1 : Nat) : Int) want (f) := ⟨_, rfl⟩
        obtain ⟨a5, ha5⟩ : ∃ n, n = a + 1 + lt := ⟨_, rfl⟩
        obtain ⟨m5, hm5⟩ : ∃ n, n = m + 1 + ct := ⟨_, rfl⟩
        replace HR5 : Hid (Row w5 cb 67 (cRow18 a5 m5 want f5)) := by rw [hf5, ha5, hm5]; exact HR5.out
        have HF5 := Lib.hid hf5
        have HA5 := Lib.hid ha5
        have HM5 := Lib.hid hm5
        have hb5a : a5 + 2 + 3 * totL e ≤ 100000000 := by omega
        have hb5m : m5 + totL e ≤ 100000000 := by omega
        clear hf5 ha5 hm5
        have e0 := HR5.out.k0
        have e1 := HR5.out.k1
        have e2 := HR5.out.k2
        have e3 := HR5.out.k3
        have g0 := HR5.out.frozen 0
        have g1 := HR5.out.frozen 1
        have g3 := HR5.out.frozen 3
        have HD := HB5.out
        rw [HBX.out] at HD
        have d4 := HD.k4
        clear HD
        by_cases hen0 : en = 0
        · subst hen0
          go_wp2
          obtain ⟨w6, hw6⟩ : ∃ w6, w6 = w5.setCell ⟨cb, 0, none⟩ (I ((a5 : Int) + 1)) := ⟨_, rfl⟩
          rw [← hw6]
          have HR6 : Hid (Row w6 cb 67 [I ((a5 : Int) + 1), I (m5 : Int), I want, I f5]) := by rw [hw6]; exact HR5.out.set 0 _
          have HB6 : Hid (Row w6 rb 55 bx) := by rw [hw6]; exact HB5.out.kept (setCell_grown _ _ _ _) (fun e => HNE.out (Option.some.inj e))
          have HG6 : Hid (wo.grownBy w6 (some cb)) := by rw [hw6]; exact grown_trans HG5.out (setCell_grown _ _ _ _)
          clear hw6
          go_roundg (N - (k + 1))
          case measure => omega
          case rel =>
            have L := st_no (x := ag) (n := nm) (t := t) (e := e) (k := 4) (.inr rfl) (HEN.out.1 (by first | rfl | trivial)) a m want f
            refine ⟨k + 1, a5 + 1, m5, f5, by omega, by go_num, by omega, by omega, Lib.hid ⟨HR6.out, grown_trans HGW.out HG6.out, ?_, ?_, ?_⟩⟩
            · (rw [← HNX.out.1, L.1]) <;> (have z1 := HL1.out; have z2 := HL2.out; have z3 := HL3.out; have z4 := HL4.out; have z5 := HA5.out; have z6 := HM5.out; omega)
            · (rw [← HNX.out.2.1, L.2.1]) <;> (have z1 := HL1.out; have z2 := HL2.out; have z3 := HL3.out; have z4 := HL4.out; have z5 := HA5.out; have z6 := HM5.out; omega)
            · rw [← HNX.out.2.2, L.2.2, if_neg HQ3.out]; exact HF5.out
        · have hpos : (0 : Int) < (en : Int) := by omega
          go_upto_region 11 with (fail)
          obtain ⟨w6, hw6⟩ : ∃ w6, w6 = w5.setCell ⟨cb, 0, none⟩ (I ((a5 : Int) + 1)) := ⟨_, rfl⟩
          rw [← hw6]
          have HR6 : Hid (Row w6 cb 67 [I ((a5 : Int) + 1), I (m5 : Int), I want, I f5]) := by rw [hw6]; exact HR5.out.set 0 _
          have HB6 : Hid (Row w6 rb 55 bx) := by rw [hw6]; exact HB5.out.kept (setCell_grown _ _ _ _) (fun e => HNE.out (Option.some.inj e))
          have HG6 : Hid (wo.grownBy w6 (some cb)) := by rw [hw6]; exact grown_trans HG5.out (setCell_grown _ _ _ _)
          clear hw6
          clear e0 e1 e2 e3 g0 g1 g3 d4
          have e0 := HR6.out.k0
          have e1 := HR6.out.k1
          have e2 := HR6.out.k2
          have e3 := HR6.out.k3
          have g0 := HR6.out.frozen 0
          have g1 := HR6.out.frozen 1
          have g3 := HR6.out.frozen 3
          have HD := HB6.out
          rw [HBX.out] at HD
          have d4 := HD.k4
          clear HD
          have HR6b : Hid (Row w6 cb 67 (cRow18 (a5 + 1) m5 want f5)) := HR6.out
          go_upto_region 12 with (first
            | (go_at_call 19; refine (HCE.out w6 HG6.out (a5 + 1) m5 f5 HR6b.out (by omega) (by omega)).mono ?_; rintro e' w7 ⟨rfl, hr7, hg7⟩; have HR7 := Lib.hid hr7; have HG7 := Lib.hid (grown_trans HG6.out hg7); have HB7 := Lib.hid (HB6.out.kept hg7 (fun e => HNE.out (Option.some.inj e))); clear hr7 hg7))
          clear e0 e1 e2 e3 g0 g1 g3 d4
          obtain ⟨f7, hf7⟩ : ∃ f7, f7 = fnd (offL e (a5 + 1)) (m5 : Int) want f5 := ⟨_, rfl⟩
          obtain ⟨a7, ha7⟩ : ∃ n, n = a5 + 1 + le := ⟨_, rfl⟩
          obtain ⟨m7, hm7⟩ : ∃ n, n = m5 + ce := ⟨_, rfl⟩
          replace HR7 : Hid (Row w7 cb 67 (cRow18 a7 m7 want f7)) := by rw [hf7, ha7, hm7]; exact HR7.out
          have HF7 := Lib.hid hf7
          have HA7 := Lib.hid ha7
          have HM7 := Lib.hid hm7
          have hb7a : a7 + 1 ≤ 100000000 := by omega
          have hb7m : m7 ≤ 100000000 := by omega
          clear hf7 ha7 hm7
          have e0 := HR7.out.k0
          have e1 := HR7.out.k1
          have e2 := HR7.out.k2
          have e3 := HR7.out.k3
          have g0 := HR7.out.frozen 0
          have g1 := HR7.out.frozen 1
          have g3 := HR7.out.frozen 3
          go_wp2
          obtain ⟨w8, hw8⟩ : ∃ w8, w8 = w7.setCell ⟨cb, 0, none⟩ (I ((a7 : Int) + 1)) := ⟨_, rfl⟩
          rw [← hw8]
          have HR8 : Hid (Row w8 cb 67 [I ((a7 : Int) + 1), I (m7 : Int), I want, I f7]) := by rw [hw8]; exact HR7.out.set 0 _
          have HB8 : Hid (Row w8 rb 55 bx) := by rw [hw8]; exact HB7.out.kept (setCell_grown _ _ _ _) (fun e => HNE.out (Option.some.inj e))
          have HG8 : Hid (wo.grownBy w8 (some cb)) := by rw [hw8]; exact grown_trans HG7.out (setCell_grown _ _ _ _)
          clear hw8
          go_roundg (N - (k + 1))
          case measure => omega
          case rel =>
            have L := st_yes (x := ag) (n := nm) (t := t) (e := e) (k := 4) (.inr rfl) (HEN.out.2 (by omega)) a m want f
            refine ⟨k + 1, a7 + 1, m7, f7, by omega, by go_num, by omega, by omega, Lib.hid ⟨HR8.out, grown_trans HGW.out HG8.out, ?_, ?_, ?_⟩⟩
            · (rw [← HNX.out.1, L.1]) <;> (have z1 := HL1.out; have z2 := HL2.out; have z3 := HL3.out; have z4 := HL4.out; have z5 := HA5.out; have z6 := HM5.out; have z7 := HA7.out; have z8 := HM7.out; omega)
            · (rw [← HNX.out.2.1, L.2.1]) <;> (have z1 := HL1.out; have z2 := HL2.out; have z3 := HL3.out; have z4 := HL4.out; have z5 := HA5.out; have z6 := HM5.out; have z7 := HA7.out; have z8 := HM7.out; omega)
            · rw [← HNX.out.2.2, L.2.2, if_neg HQ3.out]; rw [HF7.out, HF5.out, show a5 + 1 = a + 2 + linL t by (have z1 := HL1.out; have z2 := HL2.out; have z3 := HL3.out; have z4 := HL4.out; have z5 := HA5.out; have z6 := HM5.out; have z7 := HA7.out; have z8 := HM7.out; omega), show m5 = m + 1 + (offL t 0).length by (have z1 := HL1.out; have z2 := HL2.out; have z3 := HL3.out; have z4 := HL4.out; have z5 := HA5.out; have z6 := HM5.out; have z7 := HA7.out; have z8 := HM7.out; omega)]
      have q3 : (kd == 3) = false := by simpa using h3
      have q4 : (kd == 4) = false := by simpa using h4
      have n3 : (kd != 3) = true := by simpa using h3
      have n4 : (kd != 4) = true := by simpa using h4
      have HK3 := Lib.hid h3
      have HK4 := Lib.hid h4
      clear h3 h4
      go_wp2
      go_roundg (N - (k + 1))
      case measure => omega
      case rel =>
        have L := st_other (x := ag) (n := nm) (t := t) (e := e) HK3.out HK4.out a m want f
        refine ⟨k + 1, a + 1, m + 1, f, by omega, by go_num, by omega, by omega, Lib.hid ⟨HR4.out, grown_trans HGW.out HG4.out, ?_, ?_, ?_⟩⟩
        · (rw [← HNX.out.1, L.1]) <;> (have z1 := HL1.out; have z2 := HL2.out; have z3 := HL3.out; have z4 := HL4.out; omega)
        · (rw [← HNX.out.2.1, L.2.1]) <;> (have z1 := HL1.out; have z2 := HL2.out; have z3 := HL3.out; have z4 := HL4.out; omega)
        · rw [← HNX.out.2.2, L.2.2, if_neg HQ3.out]
theorem stmts19_lt:∀(M:Nat),M≤1000001→StOK M
 |0,_,l,_,_,_,_,_,_,_,_,_,h,_,_,_,_=>absurd h (Nat.not_lt_zero _)
 |M+1,hM,l,v,w,B,cb,a,m,want,f,h1,h2,h3,h4,h5,h6=>stmts19_step M (by omega) (stmts19_lt M (by omega)) l v w B cb a m want f h1 (by omega) h3 h4 h5 h6
theorem stmts19_any:StOK 1000001:=stmts19_lt 1000001 (Nat.le_refl _)
end Go.Proofs.YtngglbakkedaiaaGreatDoor
