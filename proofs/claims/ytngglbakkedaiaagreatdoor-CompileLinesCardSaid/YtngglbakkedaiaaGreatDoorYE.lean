import Derived.Test.YtngglbakkedaiaaGreatDoorYA
set_option linter.all false
namespace Go.Proofs.YtngglbakkedaiaaGreatDoor
section
open Go.RowKit Go.Shelf
attribute [local go_sem] Oper.semAt_some
set_option maxRecDepth 100000 in
set_option maxHeartbeats 400000 in
theorem one42_else (k:Int) (n:Str) (av tv ev:Value) (w w0:World) (hw0:w0=w.alloc (.cells #[I k,S n,av,tv,ev] 55)) (h4:¬k=4) (h3:¬k=3):Calls Tryz.prog 42 #[.agg #[I k,S n,av,tv,ev]] w fun e w'=>e= .returned (I (1:Int))∧w'=w0:=by
  have hr0:Row w0 w.heap.size 55 [I k,S n,av,tv,ev]:=by rw[hw0];exact heap_new _ _
  have hwe:=hw0.symm
  have c0:=hr0.cell 0
  simp only[List.getElem?_cons_zero]at c0
  have q4:((k:Int)==4)=false:=by simpa using h4
  have q3:((k:Int)==3)=false:=by simpa using h3
  clear hr0 hw0 h3 h4
  go_enter Tryz.func42, Tryz.ntmps42
  go_upto_region 4 with (fail)
  go_upto_region 9 with (fail)
  go_wp2
  go_ret
  exact ⟨rfl,rfl⟩
set_option maxRecDepth 100000 in
set_option maxHeartbeats 4000000 in
theorem one42_of (s:LS) (hs:fineS s) (ht:totS s≤1000000) (hi:∀(l:List LS) (v:Value) (w:World) (B:Nat→Prop),SX B w v l→fineL l→totL l<totS s→CR 21 #[v] w (I (linL l))) (av tv ev:Value) (w:World) (B:Nat→Prop) (h3:SX B w tv s.thn) (h4:SX B w ev s.els):CR 42 #[sV s av tv ev] w (I (linS s)):=by
  obtain⟨k,n,a,t,e⟩:=s
  have h3:SX B w tv t:=h3
  have h4:SX B w ev e:=h4
  obtain⟨f1,f2,f3,f4⟩:=hs
  have hT:totL t<totS (.mk k n a t e):=by simp only[totS];omega
  have hE:totL e<totS (.mk k n a t e):=by simp only[totS];omega
  have ht:1+totL t+totL e≤1000000:=ht
  have hlt:=linL_le t;have hle:=linL_le e
  obtain⟨LT,hLT⟩:∃n,n=linL t:=⟨_,rfl⟩
  obtain⟨LE_,hLE⟩:∃n,n=linL e:=⟨_,rfl⟩
  obtain⟨R,hR⟩:∃r,r=linS (.mk k n a t e):=⟨_,rfl⟩
  rw[←hR]
  simp only[linS]at hR
  rw[←hLT,←hLE]at hR
  rw[←hLT]at hlt
  rw[←hLE]at hle
  have hLTb:LT≤3000000:=by omega
  have hLEb:LE_≤3000000:=by omega
  show CR 42 #[.agg #[I k,S n,av,tv,ev]] w (I (R:Int))
  obtain⟨ta,tc,rfl⟩:=h3.slice
  obtain⟨ea,ec,rfl⟩:=h4.slice
  obtain⟨tn,htn⟩:∃n,n=t.length:=⟨_,rfl⟩
  obtain⟨en,hen⟩:∃n,n=e.length:=⟨_,rfl⟩
  have hc3:∀W,Below w.heap.size w W→CR 21 #[.slice ta tn tc] W (I (LT:Int)):=fun W hb=>by rw[htn,hLT];exact hi t _ W B (h3.below hb) f3 hT
  have hc4:∀W,Below w.heap.size w W→CR 21 #[.slice ea en ec] W (I (LE_:Int)):=fun W hb=>by rw[hen,hLE];exact hi e _ W B (h4.below hb) f4 hE
  have hee:e.isEmpty=decide (en=0):=by rw[hen];cases e<;>simp
  rw[hee]at hR
  have henb:en≤1000000000:=by
   obtain⟨d,_,_,_,h,-⟩:=h4
   omega
  rw[←htn,←hen]
  have hk4e:k=4→en=0:=fun h=>by rw[hen,f2 h];rfl
  have HC3:=Lib.hid hc3
  have HC4:=Lib.hid hc4
  obtain⟨w0,hw0⟩:∃w0,w0=w.alloc (.cells #[I k,S n,av,.slice ta tn tc,.slice ea en ec] 55):=⟨_,rfl⟩
  have hb0:Below w.heap.size w w0:=by rw[hw0];exact below_a1 _ _
  have hr0:Row w0 w.heap.size 55 [I k,S n,av,.slice ta tn tc,.slice ea en ec]:=by rw[hw0];exact heap_new _ _
  have HB0:=Lib.hid hb0
  have HR0:=Lib.hid hr0
  have hwe:=hw0.symm
  have c0:=hr0.cell 0;have c3:=hr0.cell 3;have c4:=hr0.cell 4
  simp only[List.getElem?_cons_zero,List.getElem?_cons_succ]at c0 c3 c4
  clear hi h3 h4 f1 f2 f3 f4 hT hE ht hlt hle hLT hLE hc3 hc4 hee htn hen hb0 hr0 hw0
  by_cases h4:k=4
  ·subst h4
   have hR:R=2+LT:=by rw[hR,hk4e rfl];simp
   subst hR
   clear hk4e
   go_enter Tryz.func42, Tryz.ntmps42
   go_wp2_with (first
    | (go_at_call 21; refine (HC3.out _ HB0.out).mono ?_; rintro e' w1 ⟨rfl, hb1⟩; have HB1 := Lib.hid (HB0.out.trans (hb1.mono HB0.out.size)); clear hb1))
   go_ret
   exact ⟨by go_num, HB1.out⟩
  ·by_cases h3:k=3
   ·subst h3
    by_cases h0:en=0
    ·subst h0
     have hR:R=2+LT:=by rw[hR];simp
     subst hR
     clear hk4e
     go_enter Tryz.func42, Tryz.ntmps42
     go_wp2_with (first
      | (go_at_call 21; refine (HC3.out _ HB0.out).mono ?_; rintro e' w1 ⟨rfl, hb1⟩; have hr1 := HR0.out.ext hb1; have d4 := hr1.cell 4; simp only [List.getElem?_cons_zero, List.getElem?_cons_succ] at d4; have HB1 := Lib.hid (HB0.out.trans (hb1.mono HB0.out.size)); clear hb1 hr1))
     go_ret
     exact ⟨by go_num, HB1.out⟩
    ·have hR:R=2+LT+(1+LE_):=by rw[hR];simp [h0]
     subst hR
     have hpos:(0:Int)<(en:Int):=by omega
     clear hk4e
     go_enter Tryz.func42, Tryz.ntmps42
     go_upto_region 6 with (first
      | (go_at_call 21; refine (HC3.out _ HB0.out).mono ?_; rintro e' w1 ⟨rfl, hb1⟩; have hr1 := HR0.out.ext hb1; have d4 := hr1.cell 4; simp only [List.getElem?_cons_zero, List.getElem?_cons_succ] at d4; have HB1 := Lib.hid (HB0.out.trans (hb1.mono HB0.out.size)); clear hb1 hr1))
     clear c0 c3 c4
     go_wp2_with (first
      | (go_at_call 21; refine (HC4.out _ HB1.out).mono ?_; rintro e' w2 ⟨rfl, hb2⟩; have HB2 := Lib.hid (HB1.out.trans (hb2.mono HB1.out.size)); clear hb2))
     go_ret
     exact ⟨by go_num, HB2.out⟩
   ·have hR:R=1:=by rw[hR,if_neg (by omega)]
    subst hR
    exact (one42_else k n av _ _ w w0 hwe.symm h4 h3).mono fun e' w' h=>⟨h.1,by rw[h.2];exact HB0.out⟩
end
section
open Go.RowKit Go.Shelf
attribute [local go_sem] Oper.semAt_some
theorem linL_step (l:List LS) (k:Nat) (h:k<l.length):linL (l.take (k+1))=linL (l.take k)+linS l[k]:=by
  rw[List.take_succ_eq_append_getElem h,linL_app,linL_one]
theorem offL_step (l:List LS) (k:Nat) (h:k<l.length) (b:Nat):offL (l.take (k+1)) b=offL (l.take k) b++offS l[k] (b+linL (l.take k)):=by
  rw[List.take_succ_eq_append_getElem h,offL_app,offL_one]
set_option maxRecDepth 100000 in
set_option maxHeartbeats 4000000 in
theorem lines21_step (M:Nat) (hM:M≤1000000) (ih:∀(l:List LS) (v:Value) (w:World) (B:Nat→Prop),SX B w v l→fineL l→totL l<M→CR 21 #[v] w (I (linL l))) (l:List LS) (v:Value) (w:World) (B:Nat→Prop) (hx:SX B w v l) (hf:fineL l) (ht:totL l≤M):CR 21 #[v] w (I (linL l)):=by
  obtain⟨Q,hQ⟩:∃Q,Q=linL l:=⟨_,rfl⟩
  have hQb:Q≤3000000:=by have:=linL_le l;omega
  rw[←hQ]
  obtain⟨aa,ac,rfl⟩:=hx.slice
  obtain⟨d,hx⟩:=hx
  obtain⟨N,hN⟩:∃N,N=l.length:=⟨_,rfl⟩
  have hNb:N≤1000000000:=by
   obtain⟨_,_,_,h,-⟩:=id hx
   omega
  rw[←hN]
  have HQ:=Lib.hid hQ
  have HX:=Lib.hid hx
  have HN:=Lib.hid hN
  have HI:=Lib.hid ih
  have HF:=Lib.hid hf
  have HT:=Lib.hid ht
  clear hQ hx hN ih hf ht
  go_enter Tryz.func21, Tryz.ntmps21
  go_wp2
  go_loopg [3, 4] N (fun gh n i wr => ∃ (k q : Nat), gh + k = N ∧ i = I k ∧ n = I q ∧ q ≤ 3000000 ∧ Hid (Below w.heap.size w wr ∧ q = linL (l.take k)))
  case atStart => exact ⟨0, 0, by omega, rfl, rfl, by omega, Lib.hid ⟨Below.refl _ _, by simp [linL]⟩⟩
  case round =>
    obtain ⟨k, q, hg, rfl, rfl, hqb, HH⟩ := hrel
    obtain ⟨wo, rfl⟩ : ∃ wo, wo = wr := ⟨_, rfl⟩
    by_cases hlt : k < N
    · have hltz : (k : Int) < (N : Int) := by omega
      have hlt' : k < l.length := by rw [← HN.out]; exact hlt
      obtain ⟨b, o, C, rfl, _, hC, hrx⟩ := (show RSlB B 5 (RS d B) wo (.slice aa l.length ac) l from HX.out.below HH.out.1 (fun C x h => RS.below HH.out.1 h)).at hlt'
      have e0 := hC 0 (by omega)
      have e1 := hC 1 (by omega)
      have e2 := hC 2 (by omega)
      have e3 := hC 3 (by omega)
      have e4 := hC 4 (by omega)
      simp only [Nat.add_zero] at e0
      obtain ⟨hev, -, htx, hex⟩ := hrx.ev
      have hts := totL_at l k hlt'
      have hsq := linL_step l k hlt'
      have hse : linL (l.take (k+1)) ≤ Q := by
        have := linL_app (l.take (k+1)) (l.drop (k+1))
        rw [List.take_append_drop, ← HQ.out] at this
        omega
      obtain ⟨s1, hs1⟩ : ∃ s, s = linS l[k] := ⟨_, rfl⟩
      have hc : CR 42 #[agg5 C] wo (I (s1 : Int)) := by
        rw [hev, hs1]
        exact one42_of l[k] (fineL_at l k hlt' HF.out) (by have := HT.out; omega) (fun l' v' w' B' h1 h2 h3 => HI.out l' v' w' B' h1 h2 (by have := HT.out; omega)) _ _ _ wo B htx hex
      rw [← hs1, ← HH.out.2] at hsq
      rw [hsq] at hse
      have hqs : q + s1 ≤ 3000000 := by omega
      have hw1 : IntKind.i64.wrap ((q : Int) + (s1 : Int)) = (q : Int) + s1 := wrap_small _ (by omega) (by omega)
      have HC := Lib.hid hc
      have HS := Lib.hid hsq
      clear hC hrx hev htx hex hts hc hs1 hse hsq
      go_wp2_with (first
        | (go_at_call 42; refine HC.out.mono ?_; rintro e' w1 ⟨rfl, hb1⟩; have HB1 := Lib.hid (HH.out.1.trans (hb1.mono HH.out.1.size)); clear hb1))
      go_roundg (N - (k + 1))
      case measure => omega
      case rel => exact ⟨k + 1, q + s1, by omega, by go_num, by go_num, hqs, Lib.hid ⟨HB1.out, HS.out.symm⟩⟩
    · have hltz : ¬ (k : Int) < (N : Int) := by omega
      have hend : Q = q := by
        rw [HQ.out, HH.out.2, List.take_of_length_le (by have := HN.out; omega)]
      obtain rfl : Q = q := hend
      go_wp2
      go_ret
      exact ⟨rfl, HH.out.1⟩
theorem lines21_lt:∀(M:Nat),M≤1000001→∀(l:List LS) (v:Value) (w:World) (B:Nat→Prop),SX B w v l→fineL l→totL l<M→CR 21 #[v] w (I (linL l))
 |0,_,l,_,_,_,_,_,h=>absurd h (Nat.not_lt_zero _)
 |M+1,hM,l,v,w,B,h1,h2,h3=>lines21_step M (by omega) (lines21_lt M (by omega)) l v w B h1 h2 (by omega)
theorem lines21_any (l:List LS) (v:Value) (w:World) (B:Nat→Prop) (h1:SX B w v l) (h2:fineL l) (h3:totL l≤1000000):CR 21 #[v] w (I (linL l)):=lines21_lt 1000001 (Nat.le_refl _) l v w B h1 h2 (by omega)
theorem one42_any (s:LS) (hs:fineS s) (ht:totS s≤1000000) (av tv ev:Value) (w:World) (B:Nat→Prop) (h3:SX B w tv s.thn) (h4:SX B w ev s.els):CR 42 #[sV s av tv ev] w (I (linS s)):=one42_of s hs ht (fun l v w B h1 h2 h3=>lines21_any l v w B h1 h2 (by omega)) av tv ev w B h3 h4
end
section
open Go.RowKit Go.Shelf
attribute [local go_sem] Oper.semAt_some
theorem offS_fine {k:Int} {n:Str} {a:List LE} {t e:List LS} (h:fineS (.mk k n a t e)) (b:Nat):offS (.mk k n a t e) b=b::(offL t (b+1)++offL e (b+2+linL t)):=by
  obtain⟨h1,h2,-,-⟩:=h
  simp only[offS]
  congr 1
  by_cases hk:k=3∨k=4
  ·rw[if_pos hk]
   congr 1
   split
   ·rename_i he
    cases e with
    |nil=>rfl
    |cons=>cases he
   ·rfl
  ·rw[if_neg hk]
   obtain⟨rfl,rfl⟩:=h1 (by omega) (by omega)
   rfl
theorem plc_nn {os:List Nat} {k:Int}:0≤plc os k↔0≤k∧k<os.length:=by
  unfold plc
  split
  ·rename_i h;exact⟨fun _=>h,fun _=>by omega⟩
  ·rename_i h;exact⟨fun h'=>by omega,fun h'=>absurd h' h⟩
theorem plc_out {os:List Nat} {k:Int} (h:¬(0≤k∧k<os.length)):plc os k= -(os.length:Int)-1:=by unfold plc;rw[if_neg h]
theorem plc_in {os:List Nat} {j x:Nat} (h:os[j]? =some x):plc os (j:Int)=(x:Int):=by
  have:=(List.getElem?_eq_some_iff.1 h).1
  unfold plc
  rw[if_pos (by omega),Int.toNat_natCast,h]
  rfl
theorem plc_lt {os:List Nat} {k:Int} {B:Nat} (h:∀x∈os,x<B):plc os k<(B:Int)∨plc os k= -(os.length:Int)-1:=by
  by_cases hk:0≤k∧k<os.length
  ·obtain⟨j,rfl⟩:∃j:Nat,k=j:=⟨k.toNat,by omega⟩
   have hj:j<os.length:=by omega
   rw[plc_in (List.getElem?_eq_getElem hj)]
   have:=h os[j] (List.getElem_mem hj)
   exact .inl (by omega)
  ·exact .inr (plc_out hk)
theorem plc_step {A R T E:List Nat} {b L:Nat} {K:Int}:
  ((A.length:Int)=K→plc (A++(b::(T.map (·+(b+1))++E.map (·+(b+2+L))))++R) K=(b:Int))∧
  (0≤plc T (K-(A.length+1))→plc (A++(b::(T.map (·+(b+1))++E.map (·+(b+2+L))))++R) K=(b:Int)+1+plc T (K-(A.length+1)))∧
  (0≤plc E (K-(A.length+1+T.length))→plc (A++(b::(T.map (·+(b+1))++E.map (·+(b+2+L))))++R) K=(b:Int)+2+L+plc E (K-(A.length+1+T.length))):=by
  refine⟨fun h=>?_,fun h=>?_,fun h=>?_⟩
  ·rw[←h]
   refine plc_in ?_
   rw[List.append_assoc,List.getElem?_append_right (Nat.le_refl _),Nat.sub_self]
   rfl
  ·have hk:=plc_nn.1 h
   obtain⟨j,hj⟩:∃j:Nat,K-(A.length+1)=j:=⟨(K-(A.length+1)).toNat,by omega⟩
   rw[hj]at hk⊢
   have hjl:j<T.length:=by omega
   have hK:K=((A.length+1+j:Nat):Int):=by omega
   rw[plc_in (List.getElem?_eq_getElem hjl),hK]
   rw[plc_in (x:=T[j]+(b+1)) (by
    rw[List.append_assoc,List.getElem?_append_right (by omega),show A.length+1+j-A.length=j+1 by omega,List.cons_append,List.getElem?_cons_succ,List.append_assoc,List.getElem?_append_left (by rw[List.length_map];exact hjl),List.getElem?_map,List.getElem?_eq_getElem hjl]
    rfl)]
   omega
  ·have hk:=plc_nn.1 h
   obtain⟨j,hj⟩:∃j:Nat,K-(A.length+1+T.length)=j:=⟨(K-(A.length+1+T.length)).toNat,by omega⟩
   rw[hj]at hk⊢
   have hjl:j<E.length:=by omega
   have hK:K=((A.length+1+T.length+j:Nat):Int):=by omega
   rw[plc_in (List.getElem?_eq_getElem hjl),hK]
   rw[plc_in (x:=E[j]+(b+2+L)) (by
    rw[List.append_assoc,List.getElem?_append_right (by omega),show A.length+1+T.length+j-A.length=T.length+j+1 by omega,List.cons_append,List.getElem?_cons_succ,List.append_assoc,List.getElem?_append_right (by rw[List.length_map];omega),List.length_map,show T.length+j-T.length=j by omega,List.getElem?_append_left (by rw[List.length_map];exact hjl),List.getElem?_map,List.getElem?_eq_getElem hjl]
    rfl)]
   omega
theorem plc_list {l:List LS} {i:Nat} (hi:i<l.length) (hf:fineL l) {K:Int} {n:Nat} (hn:n=(offL (l.take i) 0).length):
  ((n:Int)=K→plc (offL l 0) K=(linL (l.take i):Int))∧
  (0≤plc (offL l[i].thn 0) (K-(n+1))→plc (offL l 0) K=(linL (l.take i):Int)+1+plc (offL l[i].thn 0) (K-(n+1)))∧
  (0≤plc (offL l[i].els 0) (K-(n+1+(offL l[i].thn 0).length))→plc (offL l 0) K=(linL (l.take i):Int)+2+linL l[i].thn+plc (offL l[i].els 0) (K-(n+1+(offL l[i].thn 0).length)))∧
  (offL (l.take (i+1)) 0).length=n+1+(offL l[i].thn 0).length+(offL l[i].els 0).length:=by
  have hfx:=fineL_at l i hi hf
  have hd:l.drop i=l[i]::l.drop (i+1):=List.drop_eq_getElem_cons hi
  obtain⟨x,hx⟩:∃x,x=l[i]:=⟨_,rfl⟩
  rw[←hx]at hfx hd⊢
  obtain⟨b,hb⟩:∃b,b=linL (l.take i):=⟨_,rfl⟩
  have hos:offL l 0=offL (l.take i) 0++(b::((offL x.thn 0).map (·+(b+1))++(offL x.els 0).map (·+(b+2+linL x.thn))))++offL (l.drop (i+1)) (b+linS x):=by
   have h1:=offL_app (l.take i) (l.drop i) 0
   rw[List.take_append_drop,hd,Nat.zero_add,←hb]at h1
   rw[h1,List.append_assoc]
   congr 1
   show offS x b++_=_
   obtain⟨k,n,a,t,e⟩:=x
   rw[offS_fine hfx]
   have g1:=offL_add t 0 (b+1);have g2:=offL_add e 0 (b+2+linL t)
   rw[Nat.zero_add]at g1 g2
   rw[g1,g2]
   rfl
  rw[hn]
  have h:=plc_step (A:=offL (l.take i) 0) (R:=offL (l.drop (i+1)) (b+linS x)) (T:=offL x.thn 0) (E:=offL x.els 0) (b:=b) (L:=linL x.thn) (K:=K)
  rw[←hos]at h
  rw[←hb]
  refine⟨h.1,h.2.1,h.2.2,?_⟩
  rw[offL_step l i hi,←hx,List.length_append,offS_len]
  obtain⟨k,n',a,t,e⟩:=x
  rw[offS_fine hfx,List.length_cons,List.length_append,offL_len t,offL_len e]
  show _=_+1+(offL t 0).length+(offL e 0).length
  omega
end
section
open Go.RowKit Go.Shelf
attribute [local go_sem] Oper.semAt_some
theorem bcell {w w':World} (hb:Below w.heap.size w w') {p:Addr} {v:Value} (h:w.cell? p=some v):w'.cell? p=some v:=(hb.cell (World.block_lt_of_cell? w _ h)).trans h
def PlcOK (M:Nat):Prop:=∀(l:List LS) (v:Value) (w:World) (B:Nat→Prop) (K:Int),SX B w v l→fineL l→totL l<M→-9000000000000000000+1000001*(totL l:Int)≤K→K≤9223372036854775807→CR 22 #[v,I K] w (I (plc (offL l 0) K))
set_option maxRecDepth 100000 in
set_option maxHeartbeats 8000000 in
theorem place22_step (M:Nat) (hM:M≤1000000) (ih:PlcOK M) (l:List LS) (v:Value) (w:World) (B:Nat→Prop) (K:Int) (hx:SX B w v l) (hf:fineL l) (ht:totL l≤M) (hK1:-9000000000000000000+1000001*(totL l:Int)≤K) (hK2:K≤9223372036854775807):CR 22 #[v,I K] w (I (plc (offL l 0) K)):=by
  obtain⟨Q,hQ⟩:∃Q,Q=plc (offL l 0) K:=⟨_,rfl⟩
  rw[←hQ]
  obtain⟨aa,ac,rfl⟩:=hx.slice
  obtain⟨d,hx⟩:=hx
  obtain⟨N,hN⟩:∃N,N=l.length:=⟨_,rfl⟩
  have hNb:N≤1000000000:=by
   obtain⟨_,_,_,h,-⟩:=id hx
   omega
  rw[←hN]
  obtain⟨T,hT⟩:∃T,T=totL l:=⟨_,rfl⟩
  rw[←hT]at ht hK1
  have HQ:=Lib.hid hQ
  have HX:=Lib.hid hx
  have HN:=Lib.hid hN
  have HI:=Lib.hid ih
  have HF:=Lib.hid hf
  have HT:=Lib.hid hT
  clear hQ hx hN ih hf hT
  go_enter Tryz.func22, Tryz.ntmps22
  go_wp2
  go_loopg [5, 6, 7, 8] N (fun gh at_ n i inn wr => ∃ (k q p : Nat), gh + k = N ∧ i = I k ∧ n = I p ∧ at_ = I q ∧ q ≤ 3000000 ∧ p ≤ 1000000 ∧ Hid (Below w.heap.size w wr ∧ q = linL (l.take k) ∧ p = (offL (l.take k) 0).length ∧ ¬(0 ≤ K ∧ K < p)))
  case atStart => exact ⟨0, 0, 0, by omega, rfl, rfl, rfl, by omega, by omega, Lib.hid ⟨Below.refl _ _, by simp [linL], by simp [offL], by omega⟩⟩
  case round =>
    obtain ⟨k, q, p, hg, rfl, rfl, rfl, hqb, hpb, HH⟩ := hrel
    obtain ⟨wo, rfl⟩ : ∃ wo, wo = wr := ⟨_, rfl⟩
    by_cases hlt : k < N
    · have hltz : (k : Int) < (N : Int) := by omega
      have hlt' : k < l.length := by rw [← HN.out]; exact hlt
      obtain ⟨b, o, C, rfl, _, hC, hrx⟩ := (show RSlB B 5 (RS d B) wo (.slice aa l.length ac) l from HX.out.below HH.out.1 (fun C x h => RS.below HH.out.1 h)).at hlt'
      have e0 := hC 0 (by omega)
      have e1 := hC 1 (by omega)
      have e2 := hC 2 (by omega)
      have e3 := hC 3 (by omega)
      have e4 := hC 4 (by omega)
      simp only [Nat.add_zero] at e0
      obtain ⟨hev, -, htx, hex⟩ := hrx.ev
      have hts := totL_at l k hlt'
      rw [← HT.out] at hts
      have hsq := linL_step l k hlt'
      have hpl := plc_list hlt' HF.out (K := K) HH.out.2.2.1
      rw [← HQ.out, ← HH.out.2.1] at hpl
      have hse : linL (l.take (k+1)) ≤ 3000000 := by have := linL_le (l.take (k+1)); have := totL_take l (k+1); rw [← HT.out] at this; omega
      have hle : (offL (l.take (k+1)) 0).length ≤ 1000000 := by have := offL_le (l.take (k+1)); have := totL_take l (k+1); rw [← HT.out] at this; omega
      have hfx := fineL_at l k hlt' HF.out
      obtain ⟨x, hxk⟩ : ∃ x, x = l[k] := ⟨_, rfl⟩
      rw [← hxk] at hev htx hex hts hsq hpl hfx
      have hfx2 : fineL x.thn ∧ fineL x.els := by obtain ⟨k', n', a', t', e'⟩ := x; exact hfx.2.2
      have hte : 1 + totL x.thn + totL x.els ≤ T := by obtain ⟨k', n', a', t', e'⟩ := x; exact hts
      obtain ⟨s1, hs1⟩ : ∃ s, s = linS x := ⟨_, rfl⟩
      rw [← hs1, ← HH.out.2.1] at hsq
      rw [hsq] at hse
      rw [hpl.2.2.2] at hle
      have hc42 : ∀ W, Below wo.heap.size wo W → CR 42 #[agg5 C] W (I (s1 : Int)) := fun W hb => by
        rw [hev, hs1]
        exact one42_any x hfx (by omega) _ _ _ W B (htx.below hb) (hex.below hb)
      obtain ⟨ta, tc, hta⟩ := htx.slice
      obtain ⟨ea, ec, hea⟩ := hex.slice
      obtain ⟨t1, ht1⟩ : ∃ n, n = (offL x.thn 0).length := ⟨_, rfl⟩
      obtain ⟨u1, hu1⟩ : ∃ n, n = (offL x.els 0).length := ⟨_, rfl⟩
      obtain ⟨l1, hl1⟩ : ∃ n, n = linL x.thn := ⟨_, rfl⟩
      have hl1b : l1 ≤ 3000000 := by rw [hl1]; have := linL_le x.thn; omega
      rw [← ht1, ← hu1] at hpl hle
      rw [← hl1] at hpl
      have hin : ∀ (y : List LS) (J : Int), totL y ≤ 1000000 → -1000001 ≤ plc (offL y 0) J ∧ plc (offL y 0) J ≤ 3000000 := fun y J hy => by
        have h1 := linL_le y
        have h2 := offL_le y
        have h3 := plc_lt (k := J) (fun z hz => by have := (offL_lt y 0 z hz).2; rw [Nat.zero_add] at this; exact this)
        by_cases hJ : 0 ≤ plc (offL y 0) J
        · rcases h3 with h3 | h3 <;> omega
        · have := plc_out (fun h => hJ (plc_nn.2 h)); omega
      obtain ⟨J1, hJ1⟩ : ∃ J, J = K - ((p : Int) + 1) := ⟨_, rfl⟩
      obtain ⟨i1, hi1⟩ : ∃ i, i = plc (offL x.thn 0) J1 := ⟨_, rfl⟩
      have hi1b := hin x.thn J1 (by omega)
      rw [← hi1] at hi1b
      have hi1n : ¬ 0 ≤ i1 → i1 = -(t1 : Int) - 1 := fun h => by rw [hi1, ht1]; exact plc_out fun h' => h (by rw [hi1]; exact plc_nn.2 h')
      obtain ⟨J2, hJ2⟩ : ∃ J, J = K - ((p : Int) + 1 + t1) := ⟨_, rfl⟩
      obtain ⟨i2, hi2⟩ : ∃ i, i = plc (offL x.els 0) J2 := ⟨_, rfl⟩
      have hi2b := hin x.els J2 (by omega)
      rw [← hi2] at hi2b
      have hi2n : ¬ 0 ≤ i2 → i2 = -(u1 : Int) - 1 := fun h => by rw [hi2, hu1]; exact plc_out fun h' => h (by rw [hi2]; exact plc_nn.2 h')
      rw [← hJ1, ← hi1, ← hJ2, ← hi2] at hpl
      have HM1 : Hid ((0 ≤ J1 ∧ J1 < (t1 : Int)) → 0 ≤ i1) := fun h => by rw [hi1]; exact plc_nn.2 (by rw [← ht1]; exact h)
      have HM2 : Hid ((0 ≤ J2 ∧ J2 < (u1 : Int)) → 0 ≤ i2) := fun h => by rw [hi2]; exact plc_nn.2 (by rw [← hu1]; exact h)
      have hc22 : CR 22 #[C 3, I J1] wo (I i1) := by
        rw [hi1]
        exact HI.out x.thn _ wo B J1 htx hfx2.1 (by omega) (by omega) (by omega)
      have hc22b : ∀ W, Below wo.heap.size wo W → CR 22 #[C 4, I J2] W (I i2) := fun W hb => by
        rw [hi2]
        exact HI.out x.els _ W B J2 (hex.below hb) hfx2.2 (by omega) (by omega) (by omega)
      have hc21 : ∀ W, Below wo.heap.size wo W → CR 21 #[C 3] W (I (l1 : Int)) := fun W hb => by
        rw [hl1]
        exact lines21_any x.thn _ W B (htx.below hb) hfx2.1 (by omega)
      have HC42 : Hid (∀ W, Below wo.heap.size wo W → CR 42 #[.agg #[C 0, C 1, C 2, C 3, C 4]] W (I (s1 : Int))) := hc42
      have HC22 := Lib.hid hc22
      have HC22b := Lib.hid hc22b
      have HC21 := Lib.hid hc21
      have HPL := Lib.hid hpl
      have HSQ := Lib.hid hsq
      have HE0 := Lib.hid e0
      have HE1 := Lib.hid e1
      have HE2 := Lib.hid e2
      have HE3 := Lib.hid e3
      have HE4 := Lib.hid e4
      have HN1 := Lib.hid hi1n
      have HN2 := Lib.hid hi2n
      rw [hta] at HC22 HC21 HE3 HC42
      rw [hea] at HC22b HE4 HC42
      obtain ⟨tn, htn⟩ : ∃ n, n = x.thn.length := ⟨_, rfl⟩
      obtain ⟨en, hen⟩ : ∃ n, n = x.els.length := ⟨_, rfl⟩
      rw [← htn] at HC22 HC21 HE3 HC42
      rw [← hen] at HC22b HE4 HC42
      have HJ1 := Lib.hid hJ1
      have HJ2 := Lib.hid hJ2
      clear hC hrx hev htx hex hts hsq hpl hfx hfx2 hxk hs1 hta hea ht1 hu1 hl1 hin hi1 hi2 hc22 hc22b hc21 hc42 hi1n hi2n htn hen e0 e1 e2 e3 e4 hJ1 hJ2
      by_cases hnK : (p : Int) = K
      · have hQq : Q = (q : Int) := HPL.out.1 hnK
        obtain rfl : K = (p : Int) := hnK.symm
        subst hQq
        go_wp2
        go_ret
        exact ⟨rfl, HH.out.1⟩
      have hnb : ((p : Int) == K) = false := by simpa using hnK
      have HC22a : Hid (CR 22 #[.slice ta tn tc, I (K - ((p : Int) + 1))] wo (I i1)) := by rw [← HJ1.out]; exact HC22.out
      clear HC22
      have e3 := HE3.out
      go_upto_region 10 with (first
        | (go_at_call 22; refine HC22a.out.mono ?_; rintro e' w1 ⟨rfl, hb1⟩; have HB1 := Lib.hid hb1; clear hb1))
      clear e3
      by_cases hp1 : 0 ≤ i1
      · have hQq : Q = (q : Int) + 1 + i1 := HPL.out.2.1 (by omega)
        subst hQq
        go_wp2
        go_ret
        exact ⟨by go_num, HH.out.1.trans (HB1.out.mono HH.out.1.size)⟩
      have HI1E := Lib.hid (HN1.out (by omega))
      have HC22d : Hid (∀ W, Below wo.heap.size wo W → CR 22 #[.slice ea en ec, I (K - ((p : Int) + 1 - i1 - 1))] W (I i2)) := fun W hb => by
        rw [show K - ((p : Int) + 1 - i1 - 1) = J2 by have := HI1E.out; have := HJ2.out; omega]
        exact HC22b.out W hb
      clear HC22b
      have e4 := bcell HB1.out HE4.out
      have hpt : p + 1 + t1 ≤ 1000000 := by omega
      clear hnb
      go_upto_region 14 with (first
        | (go_at_call 22; refine (HC22d.out _ HB1.out).mono ?_; rintro e' w2 ⟨rfl, hb2⟩; have HB2 := Lib.hid (HB1.out.trans (hb2.mono HB1.out.size)); clear hb2))
      clear e4
      by_cases hp2 : 0 ≤ i2
      · have hQq : Q = (q : Int) + 2 + l1 + i2 := HPL.out.2.2.1 (by omega)
        have e3 := bcell HB2.out HE3.out
        subst hQq
        go_wp2_with (first
          | (go_at_call 21; refine (HC21.out _ HB2.out).mono ?_; rintro e' w3 ⟨rfl, hb3⟩; have HB3 := Lib.hid (HB2.out.trans (hb3.mono HB2.out.size)); clear hb3))
        go_ret
        exact ⟨by go_num, HH.out.1.trans (HB3.out.mono HH.out.1.size)⟩
      have HI2E := Lib.hid (HN2.out (by omega))
      have e0 := bcell HB2.out HE0.out
      have e1 := bcell HB2.out HE1.out
      have e2 := bcell HB2.out HE2.out
      have e3 := bcell HB2.out HE3.out
      have e4 := bcell HB2.out HE4.out
      go_wp2_with (first
        | (go_at_call 42; refine (HC42.out _ HB2.out).mono ?_; rintro e' w3 ⟨rfl, hb3⟩; have HB3 := Lib.hid (HB2.out.trans (hb3.mono HB2.out.size)); clear hb3))
      go_roundg (N - (k + 1))
      case measure => omega
      case rel =>
        refine ⟨k + 1, q + s1, p + 1 + t1 + u1, by omega, by go_num, congrArg (fun n : Int => Value.int .i64 n) (by have := HI1E.out; have := HI2E.out; omega), by go_num, by omega, by omega, Lib.hid ⟨HH.out.1.trans (HB3.out.mono HH.out.1.size), HSQ.out.symm, HPL.out.2.2.2.symm, ?_⟩⟩
        have h4 := HH.out.2.2.2
        have g1 : ¬(0 ≤ J1 ∧ J1 < (t1 : Int)) := fun h => by have := HM1.out h; omega
        have g2 : ¬(0 ≤ J2 ∧ J2 < (u1 : Int)) := fun h => by have := HM2.out h; omega
        have g3 := HJ1.out
        have g4 := HJ2.out
        intro h
        omega
    · have hltz : ¬ (k : Int) < (N : Int) := by omega
      have hend : Q = -(p : Int) - 1 := by
        have h1 := HH.out.2.2.1
        have h2 := HH.out.2.2.2
        rw [List.take_of_length_le (by have := HN.out; omega)] at h1
        rw [HQ.out, plc_out (by rw [← h1]; exact h2), ← h1]
      subst hend
      go_wp2
      go_ret
      exact ⟨by go_num, HH.out.1⟩
theorem place22_lt:∀(M:Nat),M≤1000001→PlcOK M
 |0,_,l,_,_,_,_,_,_,h,_,_=>absurd h (Nat.not_lt_zero _)
 |M+1,hM,l,v,w,B,K,h1,h2,h3,h4,h5=>place22_step M (by omega) (place22_lt M (by omega)) l v w B K h1 h2 (by omega) h4 h5
theorem place22_any (l:List LS) (v:Value) (w:World) (B:Nat→Prop) (K:Int) (h1:SX B w v l) (h2:fineL l) (h3:totL l≤1000000) (hK:0≤K∧K≤9223372036854775807):CR 22 #[v,I K] w (I (plc (offL l 0) K)):=place22_lt 1000001 (Nat.le_refl _) l v w B K h1 h2 (by omega) (by omega) hK.2
end
end Go.Proofs.YtngglbakkedaiaaGreatDoor
