import Derived.Test.YtngglbakkedaiaaGreatDoorHC
import Derived.Test.YtngglbakkedaiaaGreatDoorSB1
import Derived.Test.YtngglbakkedaiaaGreatDoorSB2
import Derived.Test.YtngglbakkedaiaaGreatDoorSB3
import Derived.Test.YtngglbakkedaiaaGreatDoorSB4
import Derived.Test.YtngglbakkedaiaaGreatDoorSB5
import Derived.Test.YtngglbakkedaiaaGreatDoorSB6
import Derived.Test.YtngglbakkedaiaaGreatDoorSB7
import Derived.Test.YtngglbakkedaiaaGreatDoorSB8
set_option linter.all false
namespace Go.Proofs.YtngglbakkedaiaaGreatDoor
open Go.RowKit (Below)
theorem XH_ok:ExtOK Tryz.prog 4 XH:=orX_ok (atoiX_ok (by decide) atoiLaw) (orX_ok (copyX_ok copyLaw) (orX_ok (risingX_ok risingLaw) (forgetX_ok forgetLaw)))
theorem X_ok:ExtOK Tryz.prog 4 X:=extG_ok (G:=GG) (by decide) XH_ok (by kernel_rfl) isP 30 6
theorem AC_ok:CallOK Tryz.prog 4 AC:=acall_ok X_ok (by kernel_rfl) 40
theorem mixed:Tryz.prog.follows .mixedOrders=true:=by kernel_rfl
theorem bd25:bd Tryz.f25=(.seq (hds (bd Tryz.f25)) (.seq (hds (tl (bd Tryz.f25))) (.seq (hds (tl (tl (bd Tryz.f25)))) (.seq (hds (tl (tl (tl (bd Tryz.f25))))) (.seq (hds (tl (tl (tl (tl (bd Tryz.f25)))))) (.seq (hds (tl (tl (tl (tl (tl (bd Tryz.f25))))))) (.seq (hds (tl (tl (tl (tl (tl (tl (bd Tryz.f25)))))))) (.seq (hds (tl (tl (tl (tl (tl (tl (tl (bd Tryz.f25))))))))) (tl (tl (tl (tl (tl (tl (tl (tl (bd Tryz.f25))))))))))))))))):=by kernel_rfl
theorem body25:Tryz.f25.body=some (bd Tryz.f25):=by kernel_rfl
theorem st25:u0=⟨envOf u0A.toList 0 .o,t4b.s,[]⟩:=by kernel_rfl
theorem size25:u0A.size+(Tryz.f25.ntmps-u0A.size)=59:=by kernel_rfl
theorem cs25 {W:World}:CallSeg Tryz.prog 4 W 25 u0A t4b.s (.ret v25V) v25:=by
 refine callSeg_body AC_ok mixed (x:=.ret) (st:=u9) Tryz.func25 body25 (fun n=>?_) (.inr rfl) q11
 rw[size25,←st25,bd25]
 refine (seg_seq (seg_code AC_ok mixed q0 rfl) (seg_seq (seg_code AC_ok mixed q1 rfl) (seg_seq (seg_code AC_ok mixed q2 rfl) (seg_seq (seg_code AC_ok mixed q3 rfl) (seg_seq (seg_code AC_ok mixed q4 rfl) (seg_seq (seg_code AC_ok mixed q5 rfl) (seg_seq (seg_code AC_ok mixed q6 rfl) (seg_seq (seg_code AC_ok mixed q7 rfl) (seg_code AC_ok mixed q8 rfl)))))))))
noncomputable abbrev o10:Array Oper:=opsOf (hds (tl (tl (tl (tl (bd Tryz.f10))))))
theorem bd10:bd Tryz.f10=(.seq (hds (bd Tryz.f10)) (.seq (hds (tl (bd Tryz.f10))) (.seq (hds (tl (tl (bd Tryz.f10)))) (.seq (hds (tl (tl (tl (bd Tryz.f10))))) (.seq (.region 6 o10 false) (tl (tl (tl (tl (tl (bd Tryz.f10))))))))))):=by kernel_rfl
theorem body10:Tryz.f10.body=some (bd Tryz.f10):=by kernel_rfl
theorem st10:t0=⟨envOf t0A.toList 0 .o,s1.s,[]⟩:=by kernel_rfl
theorem size10:t0A.size+(Tryz.f10.ntmps-t0A.size)=31:=by kernel_rfl
theorem rg10:List.range o10.size=0::1::2::List.range' 3 (o10.toList.drop 3).length:=by kernel_rfl
theorem cs10 {W:World}:CallSeg Tryz.prog 4 W 10 t0A s1.s (.ret v10V) v10:=by
 refine callSeg_body AC_ok mixed (x:=.ret) (st:=t5) Tryz.func10 body10 (fun n=>?_) (.inr rfl) p6
 rw[size10,←st10,bd10]
 refine (seg_seq (seg_code AC_ok mixed p0 rfl) (seg_seq (seg_code AC_ok mixed p1 rfl) (seg_seq (seg_code AC_ok mixed p2 rfl) (seg_seq (seg_code AC_ok mixed p3 rfl) (seg_seq (seg_region ?_) (seg_code AC_ok mixed p5 rfl))))))
 rw[rg10]
 exact ops_one AC_ok h1 (ops_one AC_ok h2 (ops_call h3 cs25 h4 (ops_end AC_ok h5 rfl)))
theorem bd11:bd Tryz.f11=(.seq (hds (bd Tryz.f11)) (.seq (hds (tl (bd Tryz.f11))) (.seq (hds (tl (tl (bd Tryz.f11)))) (.seq (hds (tl (tl (tl (bd Tryz.f11))))) (tl (tl (tl (tl (bd Tryz.f11))))))))):=by kernel_rfl
theorem body11:Tryz.f11.body=some (bd Tryz.f11):=by kernel_rfl
theorem st11:w0=⟨envOf w0A.toList 0 .o,s4a.s,[]⟩:=by kernel_rfl
theorem size11:w0A.size+(Tryz.f11.ntmps-w0A.size)=105:=by kernel_rfl
theorem cs11 {W:World}:CallSeg Tryz.prog 4 W 11 w0A s4a.s (.ret v11V) v11:=by
 refine callSeg_body AC_ok mixed (x:=.ret) (st:=w5) Tryz.func11 body11 (fun n=>?_) (.inr rfl) r9
 rw[size11,←st11,bd11]
 refine (seg_seq (seg_code AC_ok mixed r0 rfl) (seg_seq (seg_code AC_ok mixed r1 rfl) (seg_seq (seg_code AC_ok mixed r2 rfl) (seg_seq (seg_code AC_ok mixed r3 rfl) (seg_code AC_ok mixed r4 rfl)))))
noncomputable abbrev o4:Array Oper:=opsOf (hds (tl (bd Tryz.f4)))
noncomputable abbrev o4b:Array Oper:=opsOf (hds (tl (tl (tl (tl (bd Tryz.f4))))))
theorem bd4:bd Tryz.f4=(.seq (hds (bd Tryz.f4)) (.seq (.region 1 o4 false) (.seq (hds (tl (tl (bd Tryz.f4)))) (.seq (hds (tl (tl (tl (bd Tryz.f4))))) (.seq (.region 4 o4b false) (.seq (hds (tl (tl (tl (tl (tl (bd Tryz.f4))))))) (tl (tl (tl (tl (tl (tl (bd Tryz.f4))))))))))))):=by kernel_rfl
theorem body4:Tryz.f4.body=some (bd Tryz.f4):=by kernel_rfl
theorem size4:(#[]:Array Value).size+(Tryz.f4.ntmps-(#[]:Array Value).size)=64:=by kernel_rfl
theorem rg4:List.range o4.size=0::List.range' 1 (o4.toList.drop 1).length:=by kernel_rfl
theorem rg4b:List.range o4b.size=0::1::List.range' 2 (o4b.toList.drop 2).length:=by kernel_rfl
theorem g7a:(segE Tryz.prog 4 AC 300 [] Tryz.f4 s6).map (·.1)=some (.ret (.bool true)):=by kernel_rfl
theorem g7:∃q,segE Tryz.prog 4 AC 300 [] Tryz.f4 s6=some (.ret (.bool true),q):=by
 obtain⟨⟨r,q⟩,h1,h2⟩:=Option.map_eq_some_iff.1 g7a
 cases h2
 exact⟨q,h1⟩
theorem awake18_any {W:World} (h:GIn GG W):Calls Tryz.prog 4 #[] W fun e W'=>e= .returned (.bool true)∧Below W.heap.size W W':=by
 obtain⟨ρ,hI⟩:=gst_inv (P:=Tryz.prog) (G:=GG) (by decide) h
 obtain⟨q,hq⟩:=g7
 have hs:CallSeg Tryz.prog 4 W 4 #[] (gst GG) (.ret (.bool true)) q:=by
  refine callSeg_body AC_ok mixed (x:=.ret) (st:=s6) Tryz.func4 body4 (fun n=>?_) (.inr rfl) hq
  rw[size4,bd4]
  refine seg_seq (st:=s0) (seg_code AC_ok mixed g0 rfl) (seg_seq (st1:=s2) (seg_region ?_) (seg_seq (seg_code AC_ok mixed g2 rfl) (seg_seq (seg_code AC_ok mixed g3 rfl) (seg_seq (st1:=s5) (seg_region ?_) (seg_seq (seg_code AC_ok mixed g5 rfl) (seg_code AC_ok mixed g6 rfl))))))
  ·rw[rg4]
   exact ops_call h0 cs10 h6 (ops_end AC_ok h7 rfl)
  ·rw[rg4b]
   exact ops_one AC_ok h8 (ops_call h9 cs11 h10 (ops_end AC_ok h11 rfl))
 refine (callsIn_wide (n:=0)).1 ((hs 0 ρ W #[] hI AV.nil).mono fun e W' he=>?_)
 obtain⟨ρ',_,hI',v',rfl,hv⟩:=he
 cases hv
 obtain⟨k1,k2,k3,k4,k5⟩:=hI'.gr
 exact⟨rfl,k1,k2,k3,k4,fun x hx=>k5 x hx (fun h=>by cases h)⟩
end Go.Proofs.YtngglbakkedaiaaGreatDoor
