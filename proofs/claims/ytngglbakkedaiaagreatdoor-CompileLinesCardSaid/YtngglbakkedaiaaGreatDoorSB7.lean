import Derived.Test.YtngglbakkedaiaaGreatDoorSA
set_option linter.all false
namespace Go.Proofs.YtngglbakkedaiaaGreatDoor
set_option maxRecDepth 1000000 in
theorem g0:segc Tryz.prog 4 AC 64 300 [3] (hds (bd Tryz.f4)) s0=some (.normal,s1):=by kernel_rfl
set_option maxRecDepth 1000000 in
theorem h0:opn Tryz.prog 4 (opsOf (hds (tl (bd Tryz.f4)))) 0 s1=some (10,t0A,s1.s):=by kernel_rfl
set_option maxRecDepth 1000000 in
theorem p0:segc Tryz.prog 4 AC 31 300 [3,5] (hds (bd Tryz.f10)) t0=some (.normal,t1):=by kernel_rfl
set_option maxRecDepth 1000000 in
theorem p1:segc Tryz.prog 4 AC 31 300 [3,5] (hds (tl (bd Tryz.f10))) t1=some (.normal,t2):=by kernel_rfl
set_option maxRecDepth 1000000 in
theorem p3:segc Tryz.prog 4 AC 31 300 [3,5,238,291,296,300,338] (hds (tl (tl (tl (bd Tryz.f10))))) t3=some (.normal,t4):=by kernel_rfl
set_option maxRecDepth 1000000 in
theorem h1:opc Tryz.prog 4 AC 31 [3,5,238,291,296,300] (opsOf (hds (tl (tl (tl (tl (bd Tryz.f10))))))) 0 t4=some t4a:=by kernel_rfl
set_option maxRecDepth 1000000 in
theorem h2:opc Tryz.prog 4 AC 31 [3,5,238,291,296,300] (opsOf (hds (tl (tl (tl (tl (bd Tryz.f10))))))) 1 t4a=some t4b:=by kernel_rfl
set_option maxRecDepth 1000000 in
theorem h3:opn Tryz.prog 4 (opsOf (hds (tl (tl (tl (tl (bd Tryz.f10))))))) 2 t4b=some (25,u0A,t4b.s):=by kernel_rfl
set_option maxRecDepth 1000000 in
theorem q0:segc Tryz.prog 4 AC 59 300 [3,5,238,291,296,300,339,340] (hds (bd Tryz.f25)) u0=some (.normal,u1):=by kernel_rfl
set_option maxRecDepth 1000000 in
theorem q1:segc Tryz.prog 4 AC 59 300 [3,5,238,291,296,300,339,340] (hds (tl (bd Tryz.f25))) u1=some (.normal,u2):=by kernel_rfl
set_option maxRecDepth 1000000 in
theorem q2:segc Tryz.prog 4 AC 59 300 [3,5,238,291,296,300,339,340] (hds (tl (tl (bd Tryz.f25)))) u2=some (.normal,u3):=by kernel_rfl
set_option maxRecDepth 1000000 in
theorem q4:segc Tryz.prog 4 AC 59 300 [3,5,238,291,296,300,340,515,548,551,596] (hds (tl (tl (tl (tl (bd Tryz.f25)))))) u4=some (.normal,u5):=by kernel_rfl
set_option maxRecDepth 1000000 in
theorem q5:segc Tryz.prog 4 AC 59 300 [3,5,238,291,296,300,340,515,548,551,596] (hds (tl (tl (tl (tl (tl (bd Tryz.f25))))))) u5=some (.normal,u6):=by kernel_rfl
set_option maxRecDepth 1000000 in
theorem q8:segc Tryz.prog 4 AC 59 300 [3,5,238,291,296,300,340,1806] (tl (tl (tl (tl (tl (tl (tl (tl (bd Tryz.f25))))))))) u8=some (.ret,u9):=by kernel_rfl
set_option maxRecDepth 1000000 in
theorem q11:segE Tryz.prog 4 AC 300 [3,5,238,291,296,300,1806] Tryz.f25 u9=some (.ret v25V,v25):=by kernel_rfl
set_option maxRecDepth 1000000 in
theorem h4:aput 31 (dstk (opsOf (hds (tl (tl (tl (tl (bd Tryz.f10))))))) 2) v25V {t4b with s:=v25}=some (.normal,t4c):=by kernel_rfl
set_option maxRecDepth 1000000 in
theorem h5:opsc Tryz.prog 4 AC 31 [3,5,1806] (opsOf (hds (tl (tl (tl (tl (bd Tryz.f10))))))) 3 t4c=some t5:=by kernel_rfl
set_option maxRecDepth 1000000 in
theorem p5:segc Tryz.prog 4 AC 31 300 [3,5,1806] (tl (tl (tl (tl (tl (bd Tryz.f10)))))) t5=some (.ret,t5):=by kernel_rfl
set_option maxRecDepth 1000000 in
theorem p6:segE Tryz.prog 4 AC 300 [3,1806] Tryz.f10 t5=some (.ret v10V,v10):=by kernel_rfl
set_option maxRecDepth 1000000 in
theorem h6:aput 64 (dstk (opsOf (hds (tl (bd Tryz.f4)))) 0) v10V {s1 with s:=v10}=some (.normal,s1a):=by kernel_rfl
set_option maxRecDepth 1000000 in
theorem h7:opsc Tryz.prog 4 AC 64 [3,1806,1808] (opsOf (hds (tl (bd Tryz.f4)))) 1 s1a=some s2:=by kernel_rfl
set_option maxRecDepth 1000000 in
theorem g3:segc Tryz.prog 4 AC 64 300 [3,1806,1808] (hds (tl (tl (tl (bd Tryz.f4))))) s3=some (.normal,s4):=by kernel_rfl
set_option maxRecDepth 1000000 in
theorem h8:opc Tryz.prog 4 AC 64 [3,1806] (opsOf (hds (tl (tl (tl (tl (bd Tryz.f4))))))) 0 s4=some s4a:=by kernel_rfl
set_option maxRecDepth 1000000 in
theorem h9:opn Tryz.prog 4 (opsOf (hds (tl (tl (tl (tl (bd Tryz.f4))))))) 1 s4a=some (11,w0A,s4a.s):=by kernel_rfl
set_option maxRecDepth 1000000 in
theorem r0:segc Tryz.prog 4 AC 105 300 [3,1806,2128,2129] (hds (bd Tryz.f11)) w0=some (.normal,w1):=by kernel_rfl
set_option maxRecDepth 1000000 in
theorem r2:segc Tryz.prog 4 AC 105 300 [3,1806,2128,2129,2291,2292,2293] (hds (tl (tl (bd Tryz.f11)))) w2=some (.normal,w3):=by kernel_rfl
set_option maxRecDepth 1000000 in
theorem r4:segc Tryz.prog 4 AC 105 300 [3,1806,2129,2675] (tl (tl (tl (tl (bd Tryz.f11))))) w4=some (.ret,w5):=by kernel_rfl
set_option maxRecDepth 1000000 in
theorem r9:segE Tryz.prog 4 AC 300 [3,1806,2675] Tryz.f11 w5=some (.ret v11V,v11):=by kernel_rfl
set_option maxRecDepth 1000000 in
theorem h10:aput 64 (dstk (opsOf (hds (tl (tl (tl (tl (bd Tryz.f4))))))) 1) v11V {s4a with s:=v11}=some (.normal,s4b):=by kernel_rfl
set_option maxRecDepth 1000000 in
theorem h11:opsc Tryz.prog 4 AC 64 [3,2675,2694] (opsOf (hds (tl (tl (tl (tl (bd Tryz.f4))))))) 2 s4b=some s5:=by kernel_rfl
set_option maxRecDepth 1000000 in
theorem g5:segc Tryz.prog 4 AC 64 300 [3] (hds (tl (tl (tl (tl (tl (bd Tryz.f4))))))) s5=some (.normal,s6):=by kernel_rfl
set_option maxRecDepth 1000000 in
theorem g6:segc Tryz.prog 4 AC 64 300 [3] (tl (tl (tl (tl (tl (tl (bd Tryz.f4))))))) s6=some (.ret,s6):=by kernel_rfl
end Go.Proofs.YtngglbakkedaiaaGreatDoor
