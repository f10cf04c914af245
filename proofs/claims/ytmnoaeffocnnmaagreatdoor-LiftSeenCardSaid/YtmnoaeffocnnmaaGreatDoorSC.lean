import Derived.Test.YtmnoaeffocnnmaaGreatDoorSB1
import Derived.Test.YtmnoaeffocnnmaaGreatDoorSB2
import Derived.Test.YtmnoaeffocnnmaaGreatDoorSB3
import Derived.Test.YtmnoaeffocnnmaaGreatDoorSB4
import Derived.Test.YtmnoaeffocnnmaaGreatDoorSB5
namespace Go.Proofs.YtmnoaeffocnnmaaGreatDoor
open Go.RowKit (Below)
theorem X_ok:ExtOK Tryz.prog 4 X:=extG_ok (G:=GG) (by decide) (atoiX_ok (by decide) atoiLaw) (by kernel_rfl) isP 30 6
theorem AC_ok:CallOK Tryz.prog 4 AC:=acall_ok X_ok (by kernel_rfl) 40
theorem mixed:Tryz.prog.follows .mixedOrders=true:=by kernel_rfl
theorem bd22:bd Tryz.f22=.seq (hd (bd Tryz.f22)) (.seq (hd (tl (bd Tryz.f22))) (.seq (.block 0 (.seq (hd (inb (hd (tl (tl (bd Tryz.f22)))))) (tl (inb (hd (tl (tl (bd Tryz.f22)))))))) (.seq (hd (tl (tl (tl (bd Tryz.f22))))) (tl (tl (tl (tl (bd Tryz.f22)))))))):=by kernel_rfl
theorem body22:Tryz.f22.body=some (bd Tryz.f22):=by kernel_rfl
theorem u0e:u0=⟨envOf u0A.toList 0 .o,t1a.s,[]⟩:=by kernel_rfl
theorem size22:u0A.size+(Tryz.f22.ntmps-u0A.size)=57:=by kernel_rfl
section
variable {W:World}
theorem cs22:CallSeg Tryz.prog 4 W 22 u0A t1a.s (.ret q22V) q22:=by
 refine callSeg_body AC_ok mixed (x:=.ret) (st:=u6) Tryz.func22 body22 (fun n=>?_) (.inr rfl) c6
 rw[size22,←u0e,bd22]
 exact seg_seq (seg_code AC_ok mixed c0 rfl) (seg_seq (seg_code AC_ok mixed c1 rfl) (seg_seq (seg_block (seg_seq (seg_code AC_ok mixed c2 rfl) (seg_code AC_ok mixed c3 rfl)) (.inl rfl)) (seg_seq (seg_code AC_ok mixed c4 rfl) (seg_code AC_ok mixed c5 rfl))))
end
noncomputable abbrev o11:Array Oper:=opsOf (hd (hd (tl (bd Tryz.f11))))
theorem bd11:bd Tryz.f11=.seq (hd (bd Tryz.f11)) (.seq (.seq (.region 1 o11 false) (tl (hd (tl (bd Tryz.f11))))) (tl (tl (bd Tryz.f11)))):=by kernel_rfl
theorem body11:Tryz.f11.body=some (bd Tryz.f11):=by kernel_rfl
theorem t0e:t0=⟨envOf t0A.toList 0 .o,s4a.s,[]⟩:=by kernel_rfl
theorem size11:t0A.size+(Tryz.f11.ntmps-t0A.size)=51:=by kernel_rfl
theorem rg11:List.range o11.size=0::1::List.range' 2 (o11.toList.drop 2).length:=by kernel_rfl
section
variable {W:World}
theorem cs11:CallSeg Tryz.prog 4 W 11 t0A s4a.s (.ret q11V) q11:=by
 refine callSeg_body AC_ok mixed (x:=.ret) (st:=t3) Tryz.func11 body11 (fun n=>?_) (.inr rfl) e7
 rw[size11,←t0e,bd11]
 refine seg_seq (seg_code AC_ok mixed e0 rfl) (seg_seq (seg_seq (st1:=t1c) (seg_region ?_) (seg_code AC_ok mixed e5 rfl)) (seg_code AC_ok mixed e6 rfl))
 rw[rg11]
 exact ops_one AC_ok e1 (ops_call e2 cs22 e3 (ops_end AC_ok e4 rfl))
end
noncomputable abbrev o13:Array Oper:=opsOf (hd (tl (tl (tl (tl (bd Tryz.f13))))))
theorem bd13:bd Tryz.f13=.seq (hd (bd Tryz.f13)) (.seq (hd (tl (bd Tryz.f13))) (.seq (hd (tl (tl (bd Tryz.f13)))) (.seq (hd (tl (tl (tl (bd Tryz.f13))))) (.seq (.region 4 o13 false) (.seq (hd (tl (tl (tl (tl (tl (bd Tryz.f13))))))) (.seq (hd (tl (tl (tl (tl (tl (tl (bd Tryz.f13)))))))) (tl (tl (tl (tl (tl (tl (tl (bd Tryz.f13)))))))))))))):=by kernel_rfl
theorem body13:Tryz.f13.body=some (bd Tryz.f13):=by kernel_rfl
theorem size13:(#[]:Array Value).size+(Tryz.f13.ntmps-(#[]:Array Value).size)=64:=by kernel_rfl
theorem rg13:List.range o13.size=0::1::List.range' 2 (o13.toList.drop 2).length:=by kernel_rfl
theorem g8a:(segE Tryz.prog 4 AC 300 [] Tryz.f13 s8).map (·.1)=some (.ret (.bool true)):=by kernel_rfl
theorem g8:∃q,segE Tryz.prog 4 AC 300 [] Tryz.f13 s8=some (.ret (.bool true),q):=by
 obtain⟨⟨r,q⟩,h1,h2⟩:=Option.map_eq_some_iff.1 g8a
 cases h2
 exact⟨q,h1⟩
/-- what is assembled, lifted and run at the start is as it should be -/
theorem awake_any {W:World} (h:GIn GG W):Calls Tryz.prog 13 #[] W fun e W'=>e= .returned (.bool true)∧Below W.heap.size W W':=by
 obtain⟨ρ,hI⟩:=gst_inv (P:=Tryz.prog) (G:=GG) (by decide) h
 obtain⟨q,hq⟩:=g8
 have hs:CallSeg Tryz.prog 4 W 13 #[] (gst GG) (.ret (.bool true)) q:=by
  refine callSeg_body AC_ok mixed (x:=.ret) (st:=s8) Tryz.func13 body13 (fun n=>?_) (.inr rfl) hq
  rw[size13,bd13]
  refine seg_seq (st:=s0) (seg_code AC_ok mixed g0 rfl) (seg_seq (seg_code AC_ok mixed g1 rfl) (seg_seq (seg_code AC_ok mixed g2 rfl) (seg_seq (seg_code AC_ok mixed g3 rfl) (seg_seq (st1:=s5) (seg_region ?_) (seg_seq (seg_code AC_ok mixed g5 rfl) (seg_seq (seg_code AC_ok mixed g6 rfl) (seg_code AC_ok mixed g7 rfl)))))))
  rw[rg13]
  exact ops_one AC_ok h0 (ops_call h1 cs11 h2 (ops_end AC_ok h3 rfl))
 refine (callsIn_wide (n:=0)).1 ((hs 0 ρ W #[] hI AV.nil).mono fun e W' he=>?_)
 obtain⟨ρ',_,hI',v',rfl,hv⟩:=he
 cases hv
 obtain⟨k1,k2,k3,k4,k5⟩:=hI'.gr
 exact⟨rfl,k1,k2,k3,k4,fun x hx=>k5 x hx (fun h=>by cases h)⟩
end Go.Proofs.YtmnoaeffocnnmaaGreatDoor
