/- Several texts in one: Vh. -/
import Derived.Test.YtaahialaegfjgaaGreatDoorPk2
import Derived.KernelRfl
section
set_option maxRecDepth 100000
set_option linter.unusedVariables false
namespace Go.Proofs.YtaahialaegfjgaaGreatDoor.Vh
open Go.Vm
theorem QDN : F QgB = some QoE := rfl
theorem Qwj : Qh Tryz.prog QgB = some QoE := by kernel_rfl
theorem QCG : F QeG = some QjQ := rfl
theorem QxG : Qh Tryz.prog QeG = some QjQ := by kernel_rfl
theorem QJ6 : F QdC = some Qqp := rfl
theorem QFd : Qh Tryz.prog QdC = some Qqp := by kernel_rfl
theorem QBR : F QfU = some QhW := rfl
theorem QBg : Qh Tryz.prog QfU = some QhW := by kernel_rfl
theorem QJy : F Qe7 = some QmR := rfl
theorem QHX : Qh Tryz.prog Qe7 = some QmR := by kernel_rfl
theorem QI4 : F Qfk = some QoD := rfl
theorem QII : Qh Tryz.prog Qfk = some QoD := by kernel_rfl
theorem QBs : F Qeo = some Qov := rfl
theorem QzB : Qh Tryz.prog Qeo = some Qov := by kernel_rfl
theorem QBL : F Qfz = some QiJ := rfl
theorem QAr : Qh Tryz.prog Qfz = some QiJ := by kernel_rfl
theorem QJP : F QfB = some Qh8 := rfl
theorem QxN : Qh Tryz.prog QfB = some Qh8 := by kernel_rfl
theorem QCh : F QfZ = some QjE := rfl
theorem Qy0 : Qh Tryz.prog QfZ = some QjE := by kernel_rfl
theorem QGz : F Qbn = some Qi2 := rfl
theorem QAw : Qh Tryz.prog Qbn = some Qi2 := by kernel_rfl
theorem QzC : F QgD = some QnR := rfl
theorem QDI : Qh Tryz.prog QgD = some QnR := by kernel_rfl
theorem QyQ : F Qfw = some QpU := rfl
theorem QCR : Qh Tryz.prog Qfw = some QpU := by kernel_rfl
theorem QIA : F Qew = some Qk2 := rfl
theorem QHt : Qh Tryz.prog Qew = some Qk2 := by kernel_rfl
theorem QJ4 : F QcU = some QpP := rfl
theorem Qyk : Qh Tryz.prog QcU = some QpP := by kernel_rfl
theorem QxE : F Qej = some QoG := rfl
theorem QIf : Qh Tryz.prog Qej = some QoG := by kernel_rfl
theorem QFZ : F Qd3 = some QmX := rfl
theorem QAF : Qh Tryz.prog Qd3 = some QmX := by kernel_rfl
theorem Qys : F QeM = some Qlv := rfl
theorem QB2 : Qh Tryz.prog QeM = some Qlv := by kernel_rfl
theorem QHN : F Qb9 = some Qjt := rfl
theorem QDR : Qh Tryz.prog Qb9 = some Qjt := by kernel_rfl
theorem QFk : F Qc0 = some QjB := rfl
theorem QDV : Qh Tryz.prog Qc0 = some QjB := by kernel_rfl
theorem QBM : F Qeu = some QiT := rfl
theorem QCD : Qh Tryz.prog Qeu = some QiT := by kernel_rfl
theorem Qwn : F QdR = some Qj4 := rfl
theorem QCM : Qh Tryz.prog QdR = some Qj4 := by kernel_rfl
theorem QFt : F QdM = some Ql9 := rfl
theorem QE9 : Qh Tryz.prog QdM = some Ql9 := by kernel_rfl
theorem QBZ : F QbU = some Qkj := rfl
theorem QDO : Qh Tryz.prog QbU = some Qkj := by kernel_rfl
theorem QGl : F Qc4 = some Qjb := rfl
theorem QIM : Qh Tryz.prog Qc4 = some Qjb := by kernel_rfl
theorem QB8 : F Qeh = some QhP := rfl
theorem QwV : Qh Tryz.prog Qeh = some QhP := by kernel_rfl
theorem Qwt : F Qgr = some QqD := rfl
theorem QHk : Qh Tryz.prog Qgr = some QqD := by kernel_rfl
theorem QCA : F QfL = some Qmx := rfl
theorem Qxp : Qh Tryz.prog QfL = some Qmx := by kernel_rfl
theorem QyJ : F Qfm = some Qi7 := rfl
theorem QGA : Qh Tryz.prog Qfm = some Qi7 := by kernel_rfl
theorem QG8 : F Qda = some Qmf := rfl
theorem QAb : Qh Tryz.prog Qda = some Qmf := by kernel_rfl
theorem QIR : F Qgj = some QpJ := rfl
theorem Qxt : Qh Tryz.prog Qgj = some QpJ := by kernel_rfl
theorem QBv : F Qgl = some Qke := rfl
theorem QAd : Qh Tryz.prog Qgl = some Qke := by kernel_rfl
theorem QCf : F Qdq = some Qju := rfl
theorem QBj : Qh Tryz.prog Qdq = some Qju := by kernel_rfl
theorem QB9 : F QgE = some QjA := rfl
theorem Qyw : Qh Tryz.prog QgE = some QjA := by kernel_rfl
theorem QBU : F QdN = some QjS := rfl
theorem Qws : Qh Tryz.prog QdN = some QjS := by kernel_rfl
theorem QHY : F Qg2 = some Qpk := rfl
theorem QJ2 : Qh Tryz.prog Qg2 = some Qpk := by kernel_rfl
theorem Qyd : F Qgd = some Qp5 := rfl
theorem QJs : Qh Tryz.prog Qgd = some Qp5 := by kernel_rfl
theorem QGN : F Qf7 = some QkA := rfl
theorem QwC : Qh Tryz.prog Qf7 = some QkA := by kernel_rfl
theorem QFy : F QeN = some QnV := rfl
theorem Qxb : Qh Tryz.prog QeN = some QnV := by kernel_rfl
theorem QA2 : F Qfd = some Qq8 := rfl
theorem QAm : Qh Tryz.prog Qfd = some Qq8 := by kernel_rfl
theorem QCw : F Qfl = some Qjn := rfl
theorem QEm : Qh Tryz.prog Qfl = some Qjn := by kernel_rfl
theorem QIX : F Qep = some QpL := rfl
theorem QzZ : Qh Tryz.prog Qep = some QpL := by kernel_rfl
theorem QEn : F QfF = some Qnw := rfl
theorem QBN : Qh Tryz.prog QfF = some Qnw := by kernel_rfl
theorem QJd : F Qem = some Qka := rfl
theorem QCk : Qh Tryz.prog Qem = some Qka := by kernel_rfl
theorem QF9 : F Qgv = some Qmm := rfl
theorem QBA : Qh Tryz.prog Qgv = some Qmm := by kernel_rfl
theorem QyW : F Qfr = some Qji := rfl
theorem QBX : Qh Tryz.prog Qfr = some Qji := by kernel_rfl
theorem Qy7 : F Qen = some QqP := rfl
theorem QAi : Qh Tryz.prog Qen = some QqP := by kernel_rfl
theorem QJ7 : F Qb4 = some QjC := rfl
theorem QIO : Qh Tryz.prog Qb4 = some QjC := by kernel_rfl
theorem QI2 : F Qdi = some QiZ := rfl
theorem Qyn : Qh Tryz.prog Qdi = some QiZ := by kernel_rfl
theorem QBG : F QdA = some Qoo := rfl
theorem QHa : Qh Tryz.prog QdA = some Qoo := by kernel_rfl
theorem QCJ : F Qd2 = some QhK := rfl
theorem QEJ : Qh Tryz.prog Qd2 = some QhK := by kernel_rfl
theorem Qwl : F QfH = some Ql1 := rfl
theorem Qx1 : Qh Tryz.prog QfH = some Ql1 := by kernel_rfl
theorem Qza : F Qgo = some QkF := rfl
theorem QGB : Qh Tryz.prog Qgo = some QkF := by kernel_rfl
theorem QA5 : F Qdp = some QmV := rfl
theorem QHc : Qh Tryz.prog Qdp = some QmV := by kernel_rfl
theorem QED : F Qf6 = some Qj2 := rfl
theorem QwM : Qh Tryz.prog Qf6 = some Qj2 := by kernel_rfl
theorem QJf : F QfQ = some QqQ := rfl
theorem QHZ : Qh Tryz.prog QfQ = some QqQ := by kernel_rfl
theorem QF7 : F Qgy = some Qjk := rfl
theorem QEw : Qh Tryz.prog Qgy = some Qjk := by kernel_rfl
theorem QIq : F QfO = some Qmj := rfl
theorem QHl : Qh Tryz.prog QfO = some Qmj := by kernel_rfl
theorem QGu : F QeE = some QpD := rfl
theorem Qzm : Qh Tryz.prog QeE = some QpD := by kernel_rfl
theorem QHG : F QeR = some Qpm := rfl
theorem QBY : Qh Tryz.prog QeR = some Qpm := by kernel_rfl
theorem QJi : F Qgq = some QkE := rfl
theorem QFB : Qh Tryz.prog Qgq = some QkE := by kernel_rfl
theorem QIw : F Qef = some Qpf := rfl
theorem QDi : Qh Tryz.prog Qef = some Qpf := by kernel_rfl
theorem QBH : F Qec = some QpT := rfl
theorem QJe : Qh Tryz.prog Qec = some QpT := by kernel_rfl
theorem Qxe : F Qd4 = some Qq7 := rfl
theorem QAE : Qh Tryz.prog Qd4 = some Qq7 := by kernel_rfl
theorem QB7 : F Qf0 = some Qpx := rfl
theorem Qyh : Qh Tryz.prog Qf0 = some Qpx := by kernel_rfl
theorem Qx5 : F Qet = some Qkq := rfl
theorem QGQ : Qh Tryz.prog Qet = some Qkq := by kernel_rfl
theorem Qz8 : F QaV = some Qpj := rfl
theorem QJj : Qh Tryz.prog QaV = some Qpj := by kernel_rfl
theorem Qwf : F Qcd = some QlZ := rfl
theorem QH7 : Qh Tryz.prog Qcd = some QlZ := by kernel_rfl
theorem QBP : F QcK = some Qj8 := rfl
theorem QxY : Qh Tryz.prog QcK = some Qj8 := by kernel_rfl
theorem QxK : F Qe3 = some Qob := rfl
theorem QDJ : Qh Tryz.prog Qe3 = some Qob := by kernel_rfl
theorem Qzh : F QaT = some QiS := rfl
theorem QCz : Qh Tryz.prog QaT = some QiS := by kernel_rfl
theorem QIm : F Qdg = some QqO := rfl
theorem QFn : Qh Tryz.prog Qdg = some QqO := by kernel_rfl
theorem QwB : F Qdo = some Qql := rfl
theorem QEs : Qh Tryz.prog Qdo = some Qql := by kernel_rfl
theorem Qwk : F Qdw = some Qnb := rfl
theorem QDw : Qh Tryz.prog Qdw = some Qnb := by kernel_rfl
theorem QAH : F Qdx = some QjJ := rfl
theorem QEP : Qh Tryz.prog Qdx = some QjJ := by kernel_rfl
theorem Qw1 : F Qgb = some Qjx := rfl
theorem QAn : Qh Tryz.prog Qgb = some Qjx := by kernel_rfl
theorem QIt : F Qf1 = some Qqt := rfl
theorem QHw : Qh Tryz.prog Qf1 = some Qqt := by kernel_rfl
theorem Qyu : F Qgu = some QmT := rfl
theorem QCI : Qh Tryz.prog Qgu = some QmT := by kernel_rfl
theorem QC1 : F QeZ = some Qqx := rfl
theorem QwH : Qh Tryz.prog QeZ = some Qqx := by kernel_rfl
theorem QD1 : F Qfg = some QqN := rfl
theorem QzY : Qh Tryz.prog Qfg = some QqN := by kernel_rfl
theorem QFL : F QeD = some QoU := rfl
theorem QCK : Qh Tryz.prog QeD = some QoU := by kernel_rfl
theorem QCj : F QeJ = some Qn3 := rfl
theorem QGS : Qh Tryz.prog QeJ = some Qn3 := by kernel_rfl
theorem QGM : F Qev = some Qqu := rfl
theorem QE1 : Qh Tryz.prog Qev = some Qqu := by kernel_rfl
theorem Qy5 : F QeH = some Qpn := rfl
theorem QAv : Qh Tryz.prog QeH = some Qpn := by kernel_rfl
theorem QFi : F QeU = some QpY := rfl
theorem QJq : Qh Tryz.prog QeU = some QpY := by kernel_rfl
theorem QA0 : F QeQ = some Qom := rfl
theorem QCe : Qh Tryz.prog QeQ = some Qom := by kernel_rfl
theorem QJR : F QeV = some QlD := rfl
theorem QHW : Qh Tryz.prog QeV = some QlD := by kernel_rfl
theorem QDo : F QeX = some Qqo := rfl
theorem QGh : Qh Tryz.prog QeX = some Qqo := by kernel_rfl
theorem QCx : F QeK = some Qot := rfl
theorem Qw5 : Qh Tryz.prog QeK = some Qot := by kernel_rfl
theorem QIZ : F Qe4 = some QlR := rfl
theorem QHO : Qh Tryz.prog Qe4 = some QlR := by kernel_rfl
theorem QwQ : F Qfc = some QmJ := rfl
theorem QBm : Qh Tryz.prog Qfc = some QmJ := by kernel_rfl
theorem QBe : F Qf2 = some Qn2 := rfl
theorem QEH : Qh Tryz.prog Qf2 = some Qn2 := by kernel_rfl
theorem QIG : F QdD = some Qje := rfl
theorem QBW : Qh Tryz.prog QdD = some Qje := by kernel_rfl
theorem QDc : F QaA = some Qnr := rfl
theorem QIT : Qh Tryz.prog QaA = some Qnr := by kernel_rfl
theorem QB0 : F QbJ = some Qi4 := rfl
theorem QGj : Qh Tryz.prog QbJ = some Qi4 := by kernel_rfl
theorem QCa : F QdE = some Qkl := rfl
theorem QDy : Qh Tryz.prog QdE = some Qkl := by kernel_rfl
theorem QG5 : F QdI = some Qn5 := rfl
theorem QGq : Qh Tryz.prog QdI = some Qn5 := by kernel_rfl
theorem QIE : F Qeb = some QqY := rfl
theorem QIV : Qh Tryz.prog Qeb = some QqY := by kernel_rfl
theorem QFr : F QcQ = some Qof := rfl
theorem QFz : Qh Tryz.prog QcQ = some Qof := by kernel_rfl
theorem QG6 : F Qgs = some QjW := rfl
theorem QBE : Qh Tryz.prog Qgs = some QjW := by kernel_rfl
theorem QCC : F Qfy = some Qi0 := rfl
theorem Qwb : Qh Tryz.prog Qfy = some Qi0 := by kernel_rfl
theorem QCW : F Qgx = some Qki := rfl
theorem QAU : Qh Tryz.prog Qgx = some Qki := by kernel_rfl
theorem QEF : F Qfp = some Qjo := rfl
theorem QJV : Qh Tryz.prog Qfp = some Qjo := by kernel_rfl
theorem QEc : F Qf3 = some QhV := rfl
theorem QCy : Qh Tryz.prog Qf3 = some QhV := by kernel_rfl
theorem QGf : F Qeq = some Qk3 := rfl
theorem Qyf : Qh Tryz.prog Qeq = some Qk3 := by kernel_rfl
theorem QFK : F QfE = some Qoz := rfl
theorem QAA : Qh Tryz.prog QfE = some Qoz := by kernel_rfl
theorem QzT : F QfG = some Qp4 := rfl
theorem Qxr : Qh Tryz.prog QfG = some Qp4 := by kernel_rfl
theorem QIo : F QfT = some Qli := rfl
theorem Qyp : Qh Tryz.prog QfT = some Qli := by kernel_rfl
theorem QGv : F Qd0 = some QlT := rfl
theorem QG2 : Qh Tryz.prog Qd0 = some QlT := by kernel_rfl
theorem QEj : F Qf5 = some QkO := rfl
theorem QBC : Qh Tryz.prog Qf5 = some QkO := by kernel_rfl
theorem QH0 : F Qgc = some QoJ := rfl
theorem Qxz : Qh Tryz.prog Qgc = some QoJ := by kernel_rfl
theorem QxU : F Qdj = some QkN := rfl
theorem QB5 : Qh Tryz.prog Qdj = some QkN := by kernel_rfl
theorem QDp : F Qfj = some Qq2 := rfl
theorem QHj : Qh Tryz.prog Qfj = some Qq2 := by kernel_rfl
theorem Qw9 : F Qei = some QnD := rfl
theorem QGV : Qh Tryz.prog Qei = some QnD := by kernel_rfl
theorem QxJ : F QeA = some Qon := rfl
theorem QCp : Qh Tryz.prog QeA = some Qon := by kernel_rfl
theorem QC5 : F Qfs = some QpG := rfl
theorem QzR : Qh Tryz.prog Qfs = some QpG := by kernel_rfl
theorem QHv : F QeB = some QqH := rfl
theorem QGO : Qh Tryz.prog QeB = some QqH := by kernel_rfl
def Ql8 (L : QL) (K : QK) (v71 v75 : V) (h : Heap) : Prop :=
 (wi F L (.pick (.c v71) (.c v75) (.c (.bool false))) E0 h fun v76 h =>
 (wg v76 true (wi F L (.build [(.str []), (.str []), (.int .i64 0), .nsl] [(0, 1, (.c (.str [71, 69, 84])))]) E0 h) h fun v78 h =>
 (wg v76 true (wi F L (.build [(.int .i64 0), (.int .i64 0), (.str []), .nsl] [(1, 1, (.c (.int .i64 200)))]) E0 h) h fun v79 h =>
 (wg v76 true (wi F L (.call Qeo [(.c v78), (.c v79)]) E0 h) h fun v80 h =>
 (wi F L (.pick (.c v76) (.c v80) (.c (.bool false))) E0 h fun v81 h =>
 (∃ v, some v81 = some v ∧ K v h))))))
def Qm9 (L : QL) (K : QK) (v8 v56 v66 : V) (h : Heap) : Prop :=
 (wi F L (.ext 0 (.c v66)) E0 h fun v67 h =>
 (wi F L (.ext 1 (.c v66)) E0 h fun v68 h =>
 (wi F L (.boxz [(.int .i64 0), (.bool false), (.bool false), (.bool false), (.bool false), (.bool false), (.bool false), (.bool false), (.int .i64 0), (.int .i64 0), (.int .i64 0), (.int .i64 0), (.int .i64 0), (.int .i64 0), (.int .i64 0), (.int .i64 0), (.int .i64 0), (.int .i64 0), (.int .i64 0), (.int .i64 0), (.str [])]) E0 h fun v10 h =>
 (wi F L (.store 21 (.c v10) (.c v67)) E0 h fun _ h =>
 (wi F L (.load true 21 (.c v8)) E0 h fun v69 h =>
 (wi F L (.load true 21 (.c v10)) E0 h fun v70 h =>
 (wi F L (.eq (.agg [.i, .b, .b, .b, .b, .b, .b, .b, .i, .i, .i, .i, .i, .i, .i, .i, .i, .i, .i, .i, .s]) false (.c v69) (.c v70)) E0 h fun v71 h =>
 (wg v71 true (wi F L (.mv (.c v56)) E0 h) h fun v73 h =>
 (wg v71 true (wi F L (.mv (.c v68)) E0 h) h fun v74 h =>
 (wg v71 true (wi F L (.call QfZ [(.c v73), (.c v74)]) E0 h) h fun v75 h =>
 (Ql8 L K v71 v75 h)))))))))))
def Ql7 (L : QL) (K : QK) (v3 v4 v5 v7 v54 : V) (h : Heap) : Prop :=
 (wi F L (.ext 0 (.c v54)) E0 h fun v55 h =>
 (wi F L (.ext 1 (.c v54)) E0 h fun v56 h =>
 (wi F L (.boxz [(.int .i64 0), (.bool false), (.bool false), (.bool false), (.bool false), (.bool false), (.bool false), (.bool false), (.int .i64 0), (.int .i64 0), (.int .i64 0), (.int .i64 0), (.int .i64 0), (.int .i64 0), (.int .i64 0), (.int .i64 0), (.int .i64 0), (.int .i64 0), (.int .i64 0), (.int .i64 0), (.str [])]) E0 h fun v8 h =>
 (wi F L (.store 21 (.c v8) (.c v55)) E0 h fun _ h =>
 (wi F L (.load true 21 (.c v7)) E0 h fun v58 h =>
 (wi F L (.faddr 3 (.c v3)) E0 h fun v59 h =>
 (wi F L (.load false 1 (.c v59)) E0 h fun v60 h =>
 (wi F L (.load true 4 (.c v4)) E0 h fun v61 h =>
 (wi F L (.ixaArr 2 1 (.c v5) (.c (.int .i64 1))) E0 h fun v62 h =>
 (wi F L (.load false 1 (.c v62)) E0 h fun v63 h =>
 (wi F L (.ixaArr 2 1 (.c v5) (.c (.int .i64 0))) E0 h fun v64 h =>
 (wi F L (.load false 1 (.c v64)) E0 h fun v65 h =>
 (wi F L (.call QfB [(.c v58), (.c v60), (.c v61), (.c v63), (.c v65)]) E0 h fun v66 h =>
 (Qm9 L K v8 v56 v66 h))))))))))))))
def Qqd (L : QL) (K : QK) (v3 v4 v5 v7 : V) (h : Heap) : Prop :=
 (wi F L (.load true 21 (.c v7)) E0 h fun v46 h =>
 (wi F L (.faddr 3 (.c v3)) E0 h fun v47 h =>
 (wi F L (.load false 1 (.c v47)) E0 h fun v48 h =>
 (wi F L (.load true 4 (.c v4)) E0 h fun v49 h =>
 (wi F L (.ixaArr 2 1 (.c v5) (.c (.int .i64 1))) E0 h fun v50 h =>
 (wi F L (.load false 1 (.c v50)) E0 h fun v51 h =>
 (wi F L (.ixaArr 2 1 (.c v5) (.c (.int .i64 0))) E0 h fun v52 h =>
 (wi F L (.load false 1 (.c v52)) E0 h fun v53 h =>
 (wi F L (.call QfU [(.c v46), (.c v48), (.c v49), (.c v51), (.c v53)]) E0 h fun v54 h =>
 (Ql7 L K v3 v4 v5 v7 v54 h))))))))))
def Qr9 (L : QL) (K : QK) (v3 v4 v5 v7 v35 v39 : V) (h' : Heap) : Prop :=
 (wgd v35 false (wi F L (.load true 4 (.c v3)) E0 h') h' fun v40 h =>
 (wgd v35 false (wi F L (.load true 4 (.c v4)) E0 h) h fun v41 h' =>
 (wg v35 false (wi F L (.call Qfz [(.c v40), (.c v41)]) E0 h') h' fun v42 h =>
 (wg v35 false (wi F L (.eq .bool true (.c v39) (.c v42)) E0 h) h fun v43 h =>
 (wi F L (.pick (.c v35) (.c (.bool true)) (.c v43)) E0 h fun v44 h =>
 (wb v44
 (∃ v, some (.bool false) = some v ∧ K v h)
 (Qqd L K v3 v4 v5 v7 h)))))))
def QnT (L : QL) (K : QK) (v3 v4 v5 v7 v28 v34 : V) (h' : Heap) : Prop :=
 (wi F L (.eq (.agg [.i, .b, .b, .b, .b, .b, .b, .b, .i, .i, .i, .i, .i, .i, .i, .i, .i, .i, .i, .i, .s]) true (.c v28) (.c v34)) E0 h' fun v35 h => Ext h' h ∧
 (wgd v35 false (wi F L (.load true 4 (.c v3)) E0 h) h fun v37 h' =>
 (wgd v35 false (wi F L (.load true 4 (.c v4)) E0 h') h' fun v38 h =>
 (wgd v35 false (wi F L (.call Qeo [(.c v37), (.c v38)]) E0 h) h fun v39 h' =>
 (Qr9 L K v3 v4 v5 v7 v35 v39 h')))))
def QqS (L : QL) (K : QK) (v3 v4 v5 v7 : V) (h : Heap) : Prop :=
 (wi F L (.load true 21 (.c v7)) E0 h fun v28 h' => Ext h h' ∧
 (wi F L (.load true 4 (.c v4)) E0 h' fun v29 h => Ext h' h ∧
 (wi F L (.ixaArr 2 1 (.c v5) (.c (.int .i64 0))) E0 h fun v30 h' => Ext h h' ∧
 (wi F L (.load false 1 (.c v30)) E0 h' fun v31 h => Ext h' h ∧
 (wi F L (.ixaArr 2 1 (.c v5) (.c (.int .i64 1))) E0 h fun v32 h' => Ext h h' ∧
 (wi F L (.load false 1 (.c v32)) E0 h' fun v33 h => Ext h' h ∧
 (wi F L (.call Qfk [(.c v29), (.c v31), (.c v33)]) E0 h fun v34 h' => Ext h h' ∧
 (QnT L K v3 v4 v5 v7 v28 v34 h'))))))))
def Qsd (L : QL) (K : QK) (v3 v4 v5 v27 : V) (h : Heap) : Prop :=
 (wi F L (.boxz [(.int .i64 0), (.bool false), (.bool false), (.bool false), (.bool false), (.bool false), (.bool false), (.bool false), (.int .i64 0), (.int .i64 0), (.int .i64 0), (.int .i64 0), (.int .i64 0), (.int .i64 0), (.int .i64 0), (.int .i64 0), (.int .i64 0), (.int .i64 0), (.int .i64 0), (.int .i64 0), (.str [])]) E0 h fun v7 h =>
 (wi F L (.store 21 (.c v7) (.c v27)) E0 h fun _ h =>
 (QqS L K v3 v4 v5 v7 h)))
def Qnx (L : QL) (K : QK) (v3 v4 v5 : V) (h : Heap) : Prop :=
 (wi F L (.load true 4 (.c v4)) E0 h fun v22 h =>
 (wi F L (.ixaArr 2 1 (.c v5) (.c (.int .i64 0))) E0 h fun v23 h =>
 (wi F L (.load false 1 (.c v23)) E0 h fun v24 h =>
 (wi F L (.ixaArr 2 1 (.c v5) (.c (.int .i64 1))) E0 h fun v25 h =>
 (wi F L (.load false 1 (.c v25)) E0 h fun v26 h =>
 (wi F L (.call Qe7 [(.c v22), (.c v24), (.c v26)]) E0 h fun v27 h =>
 (Qsd L K v3 v4 v5 v27 h)))))))
def QsP (L : QL) (K : QK) (v3 v4 v5 v14 : V) (h : Heap) : Prop :=
 (wi F L (.un .not (.c v14)) E0 h fun v15 h =>
 (wg v15 false (wi F L (.faddr 3 (.c v4)) E0 h) h fun v17 h =>
 (wg v15 false (wi F L (.load false 1 (.c v17)) E0 h) h fun v18 h =>
 (wg v15 false (wi F L (.call QeG [(.c v18)]) E0 h) h fun v19 h =>
 (wg v15 false (wi F L (.un .not (.c v19)) E0 h) h fun v20 h =>
 (wi F L (.pick (.c v15) (.c (.bool true)) (.c v20)) E0 h fun v21 h =>
 (wb v21
 (∃ v, some (.bool true) = some v ∧ K v h)
 (Qnx L K v3 v4 v5 h))))))))
def Qll (L : QL) (K : QK) (a0 a1 a2 : V) (h : Heap) : Prop :=
 (wi F L (.box (.c a0)) E0 h fun v3 h =>
 (wi F L (.box (.c a1)) E0 h fun v4 h =>
 (wi F L (.box (.c a2)) E0 h fun v5 h =>
 (wi F L (.faddr 3 (.c v3)) E0 h fun v12 h =>
 (wi F L (.load false 1 (.c v12)) E0 h fun v13 h =>
 (wi F L (.call QeG [(.c v13)]) E0 h fun v14 h =>
 (QsP L K v3 v4 v5 v14 h)))))))
theorem QE0 {L : QL} {K : QK} {a0 a1 a2 : V} {h : Heap} (hp : Qll L K a0 a1 a2 h) : Cf F L QgB [a0, a1, a2] h K :=
  wcallp QDN (of_decide_eq_true (by kernel_rfl)) (p := Qll L K a0 a1 a2 h) (by kernel_rfl) hp
def QgK (L : QL) (K : QK) (v3 : V) (h : Heap) : Prop :=
 (wi F L (.bin .lss (.c v3) (.c (.int .i64 3000))) E0 h fun v34 h =>
 (∃ v, some v34 = some v ∧ K v h))
def Qip (L : QL) (K : QK) (N0 : QN) (e : Env) (v4 : V) (h : Heap) : Prop :=
 (wi F L (.bin .add (.c v4) (.c (.int .i64 1))) E0 h fun v17 h =>
 (N0 (upd (upd (upd e 16 v4) 17 v17) 4 v17) h))
def QhJ (L : QL) (K : QK) (N0 : QN) (e : Env) (v0 v3 v4 : V) (h : Heap) : Prop :=
 (wi F L (.ixaSl 2 (.c v0) (.c v4)) E0 h fun v21 h' => Ext h h' ∧
 (wi F L (.faddr 0 (.c v21)) E0 h' fun v22 h => Ext h' h ∧
 (wi F L (.load false 1 (.c v22)) E0 h fun v23 h' => Ext h h' ∧
 (wi F L (.len 0 (.c v23)) E0 h' fun v24 h => Ext h' h ∧
 (wi F L (.bin .add (.c v3) (.c v24)) E0 h fun v25 h' => Ext h h' ∧
 (wi F L (.ixaSl 2 (.c v0) (.c v4)) E0 h' fun v28 h => Ext h' h ∧
 (wi F L (.faddr 1 (.c v28)) E0 h fun v29 h' => Ext h h' ∧
 (wi F L (.load false 1 (.c v29)) E0 h' fun v30 h => Ext h' h ∧
 (wi F L (.len 0 (.c v30)) E0 h fun v31 h' => Ext h h' ∧
 (wi F L (.bin .add (.c v25) (.c v31)) E0 h' fun v32 h =>
 (Qip L K N0 (upd (upd (upd (upd (upd (upd (upd (upd (upd (upd (upd (upd (upd (upd (upd (upd e 18 v3) 19 v0) 20 v4) 21 v21) 22 v22) 23 v23) 24 v24) 25 v25) 26 v0) 27 v4) 28 v28) 29 v29) 30 v30) 31 v31) 32 v32) 3 v32) v4 h)))))))))))
def Qtu (L : QL) (K : QK) : X → Env → Heap → Prop := (fun x => (seqX (fun e h => QgK L K (e 3) h) (Qy QjQ.results K)) (X.out 0 x))
def Qvg : C :=
 (.seq (.seq (.region [⟨(some 8), none, .mv (.t 4)⟩, ⟨(some 9), none, .mv (.t 0)⟩, ⟨(some 10), none, .len 1 (.t 9)⟩, ⟨(some 11), none, .bin .lss (.t 8) (.t 10)⟩, ⟨(some 12), none, .mv (.t 11)⟩, ⟨(some 13), (some (12, true)), .mv (.t 3)⟩, ⟨(some 14), (some (12, true)), .bin .lss (.t 13) (.c (.int .i64 3000))⟩, ⟨(some 15), none, .pick (.t 12) (.t 14) (.c (.bool false))⟩])
 (.cond (.t 15)
 .skip
 (.exit 0)))
 (.seq (.block 1 (.dregion [⟨(some 18), none, .mv (.t 3)⟩, ⟨(some 19), none, .mv (.t 0)⟩, ⟨(some 20), none, .mv (.t 4)⟩, ⟨(some 21), none, .ixaSl 2 (.t 19) (.t 20)⟩, ⟨(some 22), none, .faddr 0 (.t 21)⟩, ⟨(some 23), none, .load false 1 (.t 22)⟩, ⟨(some 24), none, .len 0 (.t 23)⟩, ⟨(some 25), none, .bin .add (.t 18) (.t 24)⟩, ⟨(some 26), none, .mv (.t 0)⟩, ⟨(some 27), none, .mv (.t 4)⟩, ⟨(some 28), none, .ixaSl 2 (.t 26) (.t 27)⟩, ⟨(some 29), none, .faddr 1 (.t 28)⟩, ⟨(some 30), none, .load false 1 (.t 29)⟩, ⟨(some 31), none, .len 0 (.t 30)⟩] [⟨(some 32), none, .bin .add (.t 25) (.t 31)⟩, ⟨(some 3), none, .mv (.t 32)⟩]))
 (.region [⟨(some 16), none, .mv (.t 4)⟩, ⟨(some 17), none, .bin .add (.t 16) (.c (.int .i64 1))⟩, ⟨(some 4), none, .mv (.t 17)⟩])))
def QlY (L : QL) (K : QK) (N0 : QN) (e : Env) (h : Heap) : Prop :=
 (wi F L (.len 1 (.c (e 0))) E0 h fun v10 h =>
 (wi F L (.bin .lss (.c (e 4)) (.c v10)) E0 h fun v11 h =>
 (wg v11 true (wi F L (.mv (.c (e 3))) E0 h) h fun v13 h =>
 (wg v11 true (wi F L (.bin .lss (.c v13) (.c (.int .i64 3000))) E0 h) h fun v14 h =>
 (wi F L (.pick (.c v11) (.c v14) (.c (.bool false))) E0 h fun v15 h =>
 (wb v15
 (QhJ L K N0 (upd (upd (upd (upd (upd (upd (upd (upd e 8 (e 4)) 9 (e 0)) 10 v10) 11 v11) 12 v11) 13 v13) 14 v14) 15 v15) (e 0) (e 3) (e 4) h)
 (QgK L K (e 3) h)))))))
theorem QCb {L : QL} {K : QK} (I : Nat → Env → Heap → Prop) (hr : ∀ n e h, I n e h → QlY L K (fun e' h' => ∃ m, m < n ∧ I m e' h') e h) {n : Nat} {e : Env} {h : Heap} (hi : I n e h) : Wl F L Qvg (Qtu L K) e h :=
  wloopp (b := QlY L K) I (fun _ _ _ => by kernel_rfl) hr hi
def Qlx (L : QL) (K : QK) (a0 : V) (h : Heap) : Prop :=
 (wi F L (.len 1 (.c a0)) E0 h fun v6 h =>
 (wi F L (.bin .mul (.c (.int .i64 20)) (.c v6)) E0 h fun v7 h =>
 (Wl F L Qvg (Qtu L K) (upd (upd (upd (upd (upd (upd (Qd [a0]) 2 (.bool false)) 5 a0) 6 v6) 7 v7) 3 v7) 4 (.int .i64 0)) h)))
theorem QC4 {L : QL} {K : QK} {a0 : V} {h : Heap} (hp : Qlx L K a0 h) : Cf F L QeG [a0] h K :=
  wcallp QCG (of_decide_eq_true (by kernel_rfl)) (p := Qlx L K a0 h) (by kernel_rfl) hp
def Qmy (L : QL) (K : QK) (a0 a1 : V) (h : Heap) : Prop :=
 (wi F L (.len 0 (.c a0)) E0 h fun v6 h =>
 (wi F L (.len 0 (.c a1)) E0 h fun v8 h =>
 (wi F L (.bin .eql (.c v6) (.c v8)) E0 h fun v9 h =>
 (wg v9 true (wi F L (.mv (.c a0)) E0 h) h fun v11 h =>
 (wg v9 true (wi F L (.call Qbn [(.c v11)]) E0 h) h fun v12 h =>
 (wg v9 true (wi F L (.mv (.c a1)) E0 h) h fun v13 h =>
 (wg v9 true (wi F L (.call Qbn [(.c v13)]) E0 h) h fun v14 h =>
 (wg v9 true (wi F L (.bin .eql (.c v12) (.c v14)) E0 h) h fun v15 h =>
 (wi F L (.pick (.c v9) (.c v15) (.c (.bool false))) E0 h fun v16 h =>
 (∃ v, some v16 = some v ∧ K v h))))))))))
theorem QHo {L : QL} {K : QK} {a0 a1 : V} {h : Heap} (hp : Qmy L K a0 a1 h) : Cf F L QdC [a0, a1] h K :=
  wcallp QJ6 (of_decide_eq_true (by kernel_rfl)) (p := Qmy L K a0 a1 h) (by kernel_rfl) hp
def Qi9 (L : QL) (K : QK) (v3 v4 v5 v10 v12 v15 : V) (h : Heap) : Prop :=
 (wi F L (.app 2 32 false (.c v15) (.c v12)) E0 h fun v47 h =>
 (wi F L (.faddr 0 (.c v5)) E0 h fun v48 h =>
 (wi F L (.load false 1 (.c v48)) E0 h fun v49 h =>
 (wi F L (.build [(.int .i64 0), (.int .i64 0), (.str []), .nsl] [(1, 1, (.c v49)), (3, 1, (.c v47))]) E0 h fun v51 h =>
 (wi F L (.call Qe7 [(.c v51), (.c v3), (.c v4)]) E0 h fun v54 h =>
 (wi F L (.store 21 (.c v10) (.c v54)) E0 h fun _ h =>
 (∃ v, Qa h (Qd [v10, v47]) [.cell 0 true 21, .tmp 1] = some v ∧ K v h)))))))
def QiV (L : QL) (K : QK) (N0 : QN) (e : Env) (v31 : V) (h : Heap) : Prop :=
 (wi F L (.bin .add (.c v31) (.c (.int .i64 1))) E0 h fun v44 h =>
 (N0 (upd (upd e 44 v44) 31 v44) h))
def Qnd (L : QL) (K : QK) (N0 : QN) (e : Env) (v12 v15 v17 v31 v33 v34 v36 v37 v38 : V) (h : Heap) : Prop :=
 (wi F L (.un .not (.c v38)) E0 h fun v39 h =>
 (wb v39
 (wi F L (.load true 2 (.c v17)) E0 h fun v41 h =>
 (wi F L (.bsl 2 [(.c v41)]) E0 h fun v42 h =>
 (wi F L (.app 2 32 false (.c v15) (.c v42)) E0 h fun v43 h =>
 (QiV L K N0 (upd (upd (upd (upd (upd (upd (upd (upd (upd (upd (upd (upd (upd e 33 v33) 34 v34) 17 v17) 35 v12) 36 v36) 37 v37) 38 v38) 39 v39) 40 v15) 41 v41) 42 v42) 43 v43) 15 v43) v31 h))))
 (QiV L K N0 (upd (upd (upd (upd (upd (upd (upd (upd e 33 v33) 34 v34) 17 v17) 35 v12) 36 v36) 37 v37) 38 v38) 39 v39) v31 h)))
def QsV (L : QL) (K : QK) (N0 : QN) (e : Env) (v12 v15 v29 v31 : V) (h : Heap) : Prop :=
 (wi F L (.ixaSl 2 (.c v29) (.c v31)) E0 h fun v33 h =>
 (wi F L (.load true 2 (.c v33)) E0 h fun v34 h =>
 (wi F L (.boxz [(.str []), (.str [])]) E0 h fun v17 h =>
 (wi F L (.store 2 (.c v17) (.c v34)) E0 h fun _ h =>
 (wi F L (.faddr 0 (.c v17)) E0 h fun v36 h =>
 (wi F L (.load false 1 (.c v36)) E0 h fun v37 h =>
 (wi F L (.call QcU [(.c v12), (.c v37)]) E0 h fun v38 h =>
 (Qnd L K N0 e v12 v15 v17 v31 v33 v34 v36 v37 v38 h))))))))
def QpV (L : QL) (K : QK) : X → Env → Heap → Prop := (fun x => (seqX (fun e h => Qi9 L K (e 3) (e 4) (e 5) (e 10) (e 12) (e 15) h) (Qy QhW.results K)) (X.out 2 x))
def Qmv : C :=
 (.seq (.region [⟨(some 32), none, .bin .lss (.t 31) (.t 30)⟩])
 (.seq (.cond (.t 32)
 .skip
 (.exit 2))
 (.seq (.block 3 (.seq (.region [⟨(some 33), none, .ixaSl 2 (.t 29) (.t 31)⟩, ⟨(some 34), none, .load true 2 (.t 33)⟩, ⟨(some 17), none, .boxz [(.str []), (.str [])]⟩, ⟨none, none, .store 2 (.t 17) (.t 34)⟩])
 (.seq (.region [⟨(some 35), none, .mv (.t 12)⟩, ⟨(some 36), none, .faddr 0 (.t 17)⟩, ⟨(some 37), none, .load false 1 (.t 36)⟩, ⟨(some 38), none, .call QcU [(.t 35), (.t 37)]⟩, ⟨(some 39), none, .un .not (.t 38)⟩])
 (.cond (.t 39)
 (.region [⟨(some 40), none, .mv (.t 15)⟩, ⟨(some 41), none, .load true 2 (.t 17)⟩, ⟨(some 42), none, .bsl 2 [(.t 41)]⟩, ⟨(some 43), none, .app 2 32 false (.t 40) (.t 42)⟩, ⟨(some 15), none, .mv (.t 43)⟩])
 .skip))))
 (.region [⟨(some 44), none, .bin .add (.t 31) (.c (.int .i64 1))⟩, ⟨(some 31), none, .mv (.t 44)⟩]))))
def Qlk (L : QL) (K : QK) (N0 : QN) (e : Env) (h : Heap) : Prop :=
 (wi F L (.bin .lss (.c (e 31)) (.c (e 30))) E0 h fun v32 h =>
 (wb v32
 (QsV L K N0 (upd e 32 v32) (e 12) (e 15) (e 29) (e 31) h)
 (Qi9 L K (e 3) (e 4) (e 5) (e 10) (e 12) (e 15) h)))
theorem QHd {L : QL} {K : QK} (I : Nat → Env → Heap → Prop) (hr : ∀ n e h, I n e h → Qlk L K (fun e' h' => ∃ m, m < n ∧ I m e' h') e h) {n : Nat} {e : Env} {h : Heap} (hi : I n e h) : Wl F L Qmv (QpV L K) e h :=
  wloopp (b := Qlk L K) I (fun _ _ _ => by kernel_rfl) hr hi
def QlI (L : QL) (K : QK) (e : Env) (v1 : V) (h : Heap) : Prop :=
 (wi F L (.len 1 (.c v1)) E0 h fun v30 h =>
 (Wl F L Qmv (QpV L K) (upd (upd (upd (upd e 15 .nsl) 29 v1) 30 v30) 31 (.int .i64 0)) h))
def QuD (L : QL) (K : QK) (N0 : QN) (e : Env) (v22 : V) (h : Heap) : Prop :=
 (wi F L (.bin .add (.c v22) (.c (.int .i64 1))) E0 h fun v28 h =>
 (N0 (upd (upd e 28 v28) 22 v28) h))
def Qr4 (L : QL) (K : QK) (N0 : QN) (e : Env) (v12 v21 v22 : V) (h : Heap) : Prop :=
 (wi F L (.ixArr 5 1 false (.c v21) (.c v22)) E0 h fun v24 h =>
 (wi F L (.call Qew [(.c v12), (.c v24)]) E0 h fun v27 h =>
 (QuD L K N0 (upd (upd (upd (upd (upd (upd e 24 v24) 14 v24) 25 v12) 26 v24) 27 v27) 12 v27) v22 h)))
def Quv (L : QL) (K : QK) : X → Env → Heap → Prop := (fun x => (seqX (fun e h => QlI L K e (e 1) h) (Qy QhW.results K)) (X.out 0 x))
def QuJ : C :=
 (.seq (.region [⟨(some 23), none, .bin .lss (.t 22) (.c (.int .i64 5))⟩])
 (.seq (.cond (.t 23)
 .skip
 (.exit 0))
 (.seq (.block 1 (.seq (.region [⟨(some 24), none, .ixArr 5 1 false (.t 21) (.t 22)⟩, ⟨(some 14), none, .mv (.t 24)⟩])
 (.region [⟨(some 25), none, .mv (.t 12)⟩, ⟨(some 26), none, .mv (.t 14)⟩, ⟨(some 27), none, .call Qew [(.t 25), (.t 26)]⟩, ⟨(some 12), none, .mv (.t 27)⟩])))
 (.region [⟨(some 28), none, .bin .add (.t 22) (.c (.int .i64 1))⟩, ⟨(some 22), none, .mv (.t 28)⟩]))))
def QmU (L : QL) (K : QK) (N0 : QN) (e : Env) (h : Heap) : Prop :=
 (wi F L (.bin .lss (.c (e 22)) (.c (.int .i64 5))) E0 h fun v23 h =>
 (wb v23
 (Qr4 L K N0 (upd e 23 v23) (e 12) (e 21) (e 22) h)
 (QlI L K (upd e 23 v23) (e 1) h)))
theorem QyL {L : QL} {K : QK} (I : Nat → Env → Heap → Prop) (hr : ∀ n e h, I n e h → QmU L K (fun e' h' => ∃ m, m < n ∧ I m e' h') e h) {n : Nat} {e : Env} {h : Heap} (hi : I n e h) : Wl F L QuJ (Quv L K) e h :=
  wloopp (b := QmU L K) I (fun _ _ _ => by kernel_rfl) hr hi
def QpM (L : QL) (K : QK) (a0 a1 a2 a3 a4 : V) (h : Heap) : Prop :=
 (wi F L (.box (.c a0)) E0 h fun v5 h =>
 (wi F L (.box (.c a2)) E0 h fun v7 h =>
 (wi F L (.boxz [(.int .i64 0), (.bool false), (.bool false), (.bool false), (.bool false), (.bool false), (.bool false), (.bool false), (.int .i64 0), (.int .i64 0), (.int .i64 0), (.int .i64 0), (.int .i64 0), (.int .i64 0), (.int .i64 0), (.int .i64 0), (.int .i64 0), (.int .i64 0), (.int .i64 0), (.int .i64 0), (.str [])]) E0 h fun v10 h =>
 (wi F L (.faddr 3 (.c v7)) E0 h fun v18 h =>
 (wi F L (.load false 1 (.c v18)) E0 h fun v19 h =>
 (wi F L (.call QgD [(.c v19)]) E0 h fun v20 h =>
 (wi F L (.call Qfw []) E0 h fun v21 h =>
 (Wl F L QuJ (Quv L K) (upd (upd (upd (upd (upd (upd (upd (upd (upd (upd (Qd [a0, a1, a2, a3, a4]) 5 v5) 7 v7) 10 v10) 11 .nsl) 18 v18) 19 v19) 20 v20) 12 v20) 21 v21) 22 (.int .i64 0)) h))))))))
theorem Qwz {L : QL} {K : QK} {a0 a1 a2 a3 a4 : V} {h : Heap} (hp : QpM L K a0 a1 a2 a3 a4 h) : Cf F L QfU [a0, a1, a2, a3, a4] h K :=
  wcallp QBR (of_decide_eq_true (by kernel_rfl)) (p := QpM L K a0 a1 a2 a3 a4 h) (by kernel_rfl) hp
def QhE (L : QL) (K : QK) (v3 v6 v7 : V) (h : Heap) : Prop :=
 (wi F L (.faddr 3 (.c v3)) E0 h fun v66 h =>
 (wi F L (.load false 1 (.c v66)) E0 h fun v67 h =>
 (wi F L (.call Qb9 [(.c v67), (.c (.str [69, 84, 97, 103]))]) E0 h fun v68 h =>
 (wi F L (.ext 0 (.c v68)) E0 h fun v69 h =>
 (wi F L (.ext 1 (.c v68)) E0 h fun v70 h =>
 (wi F L (.faddr 20 (.c v7)) E0 h fun v71 h =>
 (wi F L (.store 1 (.c v71) (.c v69)) E0 h fun _ h =>
 (wi F L (.load true 21 (.c v7)) E0 h fun v72 h =>
 (wi F L (.store 21 (.c v6) (.c v72)) E0 h fun _ h =>
 (∃ v, Qa h (Qd [v6]) [.cell 0 true 21] = some v ∧ K v h))))))))))
def QqE (L : QL) (K : QK) (v3 v6 v7 v49 : V) (h : Heap) : Prop :=
 (wi F L (.ext 0 (.c v49)) E0 h fun v50 h =>
 (wi F L (.ext 1 (.c v49)) E0 h fun v51 h =>
 (wi F L (.len 1 (.c v50)) E0 h fun v53 h =>
 (wi F L (.bin .gtr (.c v53) (.c (.int .i64 0))) E0 h fun v54 h =>
 (wb v54
 (wi F L (.ixaSl 1 (.c v50) (.c (.int .i64 0))) E0 h fun v57 h =>
 (wi F L (.load false 1 (.c v57)) E0 h fun v58 h =>
 (wi F L (.call Qeu [(.c v58), (.c (.int .i64 2147483648))]) E0 h fun v59 h =>
 (wi F L (.ext 0 (.c v59)) E0 h fun v60 h =>
 (wi F L (.ext 1 (.c v59)) E0 h fun v61 h =>
 (wb v61
 (wi F L (.faddr 17 (.c v7)) E0 h fun v64 h =>
 (wi F L (.store 1 (.c v64) (.c v60)) E0 h fun _ h =>
 (QhE L K v3 v6 v7 h)))
 (QhE L K v3 v6 v7 h)))))))
 (QhE L K v3 v6 v7 h))))))
def Qj0 (L : QL) (K : QK) (v3 v6 v7 : V) (h : Heap) : Prop :=
 (wi F L (.faddr 3 (.c v3)) E0 h fun v42 h =>
 (wi F L (.load false 1 (.c v42)) E0 h fun v43 h =>
 (wi F L (.call Qb9 [(.c v43), (.c (.str [65, 103, 101]))]) E0 h fun v44 h =>
 (wi F L (.ext 0 (.c v44)) E0 h fun v45 h =>
 (wi F L (.ext 1 (.c v44)) E0 h fun v46 h =>
 (wi F L (.call Qc0 [(.c v45)]) E0 h fun v49 h =>
 (QqE L K v3 v6 v7 v49 h)))))))
def Qqq (L : QL) (K : QK) (v3 v6 v7 v24 v33 : V) (h : Heap) : Prop :=
 (wi F L (.boxz [(.int .i64 0), (.bool false), (.bool false)]) E0 h fun v9 h =>
 (wi F L (.store 3 (.c v9) (.c v33)) E0 h fun _ h =>
 (wi F L (.load true 3 (.c v9)) E0 h fun v34 h =>
 (wi F L (.build [(.int .i64 0), (.bool false), (.bool false)] []) E0 h fun v35 h =>
 (wi F L (.eq (.agg [.i, .b, .b]) true (.c v34) (.c v35)) E0 h fun v36 h =>
 (wb v36
 (wi F L (.callv (.c v24) [(.c (.str [69, 120, 112, 105, 114, 101, 115]))]) E0 h fun v38 h =>
 (wi F L (.mx [(.c (.int .i64 0)), (.c v38)]) E0 h fun v39 h =>
 (wi F L (.faddr 15 (.c v7)) E0 h fun v40 h =>
 (wi F L (.store 1 (.c v40) (.c v39)) E0 h fun _ h =>
 (Qj0 L K v3 v6 v7 h)))))
 (Qj0 L K v3 v6 v7 h)))))))
def Qp3 (L : QL) (K : QK) (v3 v6 v7 v24 v26 v28 : V) (h : Heap) : Prop :=
 (wi F L (.faddr 14 (.c v7)) E0 h fun v29 h =>
 (wi F L (.store 1 (.c v29) (.c v26)) E0 h fun _ h =>
 (wi F L (.faddr 16 (.c v7)) E0 h fun v30 h =>
 (wi F L (.store 1 (.c v30) (.c v28)) E0 h fun _ h =>
 (wi F L (.faddr 3 (.c v3)) E0 h fun v31 h =>
 (wi F L (.load false 1 (.c v31)) E0 h fun v32 h =>
 (wi F L (.call QeM [(.c v32), (.c (.str [69, 120, 112, 105, 114, 101, 115]))]) E0 h fun v33 h =>
 (Qqq L K v3 v6 v7 v24 v33 h))))))))
def Qnn (L : QL) (K : QK) (a1 a2 v3 v6 v17 v20 : V) (h' : Heap) : Prop :=
 (wi F L (.build [(.int .i64 0), (.bool false), (.bool false), (.bool false), (.bool false), (.bool false), (.bool false), (.bool false), (.int .i64 0), (.int .i64 0), (.int .i64 0), (.int .i64 0), (.int .i64 0), (.int .i64 0), (.int .i64 0), (.int .i64 0), (.int .i64 0), (.int .i64 0), (.int .i64 0), (.int .i64 0), (.str [])] [(0, 1, (.c v17)), (1, 13, (.c v20)), (15, 1, (.c (.int .i64 (-1)))), (17, 1, (.c (.int .i64 (-1)))), (18, 1, (.c a1)), (19, 1, (.c a2))]) E0 h' fun v23 h => Ext h' h ∧
 (wi F L (.boxz [(.int .i64 0), (.bool false), (.bool false), (.bool false), (.bool false), (.bool false), (.bool false), (.bool false), (.int .i64 0), (.int .i64 0), (.int .i64 0), (.int .i64 0), (.int .i64 0), (.int .i64 0), (.int .i64 0), (.int .i64 0), (.int .i64 0), (.int .i64 0), (.int .i64 0), (.int .i64 0), (.str [])]) E0 h fun v7 h' => Ext h h' ∧
 (wi F L (.store 21 (.c v7) (.c v23)) E0 h' fun _ h =>
 (wi F L (.mkfn Qd3 [(.c v3)]) E0 h fun v24 h =>
 (wi F L (.callv (.c v24) [(.c (.str [68, 97, 116, 101]))]) E0 h fun v26 h =>
 (wi F L (.callv (.c v24) [(.c (.str [76, 97, 115, 116, 45, 77, 111, 100, 105, 102, 105, 101, 100]))]) E0 h fun v28 h =>
 (Qp3 L K v3 v6 v7 v24 v26 v28 h)))))))
def QkJ (L : QL) (K : QK) (a0 a1 a2 : V) (h : Heap) : Prop :=
 (wi F L (.box (.c a0)) E0 h fun v3 h =>
 (wi F L (.boxz [(.int .i64 0), (.bool false), (.bool false), (.bool false), (.bool false), (.bool false), (.bool false), (.bool false), (.int .i64 0), (.int .i64 0), (.int .i64 0), (.int .i64 0), (.int .i64 0), (.int .i64 0), (.int .i64 0), (.int .i64 0), (.int .i64 0), (.int .i64 0), (.int .i64 0), (.int .i64 0), (.str [])]) E0 h fun v6 h =>
 (wi F L (.faddr 1 (.c v3)) E0 h fun v16 h' => Ext h h' ∧
 (wi F L (.load false 1 (.c v16)) E0 h' fun v17 h => Ext h' h ∧
 (wi F L (.faddr 3 (.c v3)) E0 h fun v18 h' => Ext h h' ∧
 (wi F L (.load false 1 (.c v18)) E0 h' fun v19 h => Ext h' h ∧
 (wi F L (.call Qej [(.c v19)]) E0 h fun v20 h' => Ext h h' ∧
 (Qnn L K a1 a2 v3 v6 v17 v20 h'))))))))
theorem QIy {L : QL} {K : QK} {a0 a1 a2 : V} {h : Heap} (hp : QkJ L K a0 a1 a2 h) : Cf F L Qe7 [a0, a1, a2] h K :=
  wcallp QJy (of_decide_eq_true (by kernel_rfl)) (p := QkJ L K a0 a1 a2 h) (by kernel_rfl) hp
def Qiq (L : QL) (K : QK) (v3 v6 v7 : V) (h : Heap) : Prop :=
 (wi F L (.faddr 3 (.c v3)) E0 h fun v71 h =>
 (wi F L (.load false 1 (.c v71)) E0 h fun v72 h =>
 (wi F L (.call QbU [(.c v72), (.c (.str [101, 116, 97, 103]))]) E0 h fun v73 h =>
 (wi F L (.ext 0 (.c v73)) E0 h fun v74 h =>
 (wi F L (.ext 1 (.c v73)) E0 h fun v75 h =>
 (wi F L (.faddr 20 (.c v7)) E0 h fun v76 h =>
 (wi F L (.store 1 (.c v76) (.c v74)) E0 h fun _ h =>
 (wi F L (.load true 21 (.c v7)) E0 h fun v77 h =>
 (wi F L (.store 21 (.c v6) (.c v77)) E0 h fun _ h =>
 (∃ v, Qa h (Qd [v6]) [.cell 0 true 21] = some v ∧ K v h))))))))))
def Qnt (L : QL) (K : QK) (v3 v6 v7 v54 : V) (h : Heap) : Prop :=
 (wi F L (.ext 0 (.c v54)) E0 h fun v55 h =>
 (wi F L (.ext 1 (.c v54)) E0 h fun v56 h =>
 (wi F L (.len 1 (.c v55)) E0 h fun v58 h =>
 (wi F L (.bin .gtr (.c v58) (.c (.int .i64 0))) E0 h fun v59 h =>
 (wb v59
 (wi F L (.ixaSl 1 (.c v55) (.c (.int .i64 0))) E0 h fun v62 h =>
 (wi F L (.load false 1 (.c v62)) E0 h fun v63 h =>
 (wi F L (.call Qeh [(.c v63), (.c (.int .i64 2147483648))]) E0 h fun v64 h =>
 (wi F L (.ext 0 (.c v64)) E0 h fun v65 h =>
 (wi F L (.ext 1 (.c v64)) E0 h fun v66 h =>
 (wb v66
 (wi F L (.faddr 17 (.c v7)) E0 h fun v69 h =>
 (wi F L (.store 1 (.c v69) (.c v65)) E0 h fun _ h =>
 (Qiq L K v3 v6 v7 h)))
 (Qiq L K v3 v6 v7 h)))))))
 (Qiq L K v3 v6 v7 h))))))
def Qkz (L : QL) (K : QK) (v3 v6 v7 : V) (h : Heap) : Prop :=
 (wi F L (.faddr 3 (.c v3)) E0 h fun v47 h =>
 (wi F L (.load false 1 (.c v47)) E0 h fun v48 h =>
 (wi F L (.call QbU [(.c v48), (.c (.str [97, 103, 101]))]) E0 h fun v49 h =>
 (wi F L (.ext 0 (.c v49)) E0 h fun v50 h =>
 (wi F L (.ext 1 (.c v49)) E0 h fun v51 h =>
 (wi F L (.call Qc4 [(.c v50)]) E0 h fun v54 h =>
 (Qnt L K v3 v6 v7 v54 h)))))))
def QnU (L : QL) (K : QK) (v3 v6 v7 v40 : V) (h : Heap) : Prop :=
 (wi F L (.faddr 15 (.c v7)) E0 h fun v41 h =>
 (wi F L (.store 1 (.c v41) (.c v40)) E0 h fun _ h =>
 (wi F L (.faddr 15 (.c v7)) E0 h fun v42 h =>
 (wi F L (.load false 1 (.c v42)) E0 h fun v43 h =>
 (wi F L (.bin .eql (.c v43) (.c (.int .i64 (-2)))) E0 h fun v44 h =>
 (wb v44
 (wi F L (.faddr 15 (.c v7)) E0 h fun v45 h =>
 (wi F L (.store 1 (.c v45) (.c (.int .i64 0))) E0 h fun _ h =>
 (Qkz L K v3 v6 v7 h)))
 (Qkz L K v3 v6 v7 h)))))))
def Qkf (L : QL) (K : QK) (v3 v6 v7 : V) (h : Heap) : Prop :=
 (wi F L (.faddr 3 (.c v3)) E0 h fun v38 h =>
 (wi F L (.load false 1 (.c v38)) E0 h fun v39 h =>
 (wi F L (.call QdM [(.c v39), (.c (.str [101, 120, 112, 105, 114, 101, 115]))]) E0 h fun v40 h =>
 (QnU L K v3 v6 v7 v40 h))))
def Qle (L : QL) (K : QK) (v3 v6 v7 v32 : V) (h : Heap) : Prop :=
 (wi F L (.faddr 16 (.c v7)) E0 h fun v33 h =>
 (wi F L (.store 1 (.c v33) (.c v32)) E0 h fun _ h =>
 (wi F L (.faddr 16 (.c v7)) E0 h fun v34 h =>
 (wi F L (.load false 1 (.c v34)) E0 h fun v35 h =>
 (wi F L (.bin .lss (.c v35) (.c (.int .i64 0))) E0 h fun v36 h =>
 (wb v36
 (wi F L (.faddr 16 (.c v7)) E0 h fun v37 h =>
 (wi F L (.store 1 (.c v37) (.c (.int .i64 (-1)))) E0 h fun _ h =>
 (Qkf L K v3 v6 v7 h)))
 (Qkf L K v3 v6 v7 h)))))))
def QjX (L : QL) (K : QK) (v3 v6 v7 : V) (h : Heap) : Prop :=
 (wi F L (.faddr 3 (.c v3)) E0 h fun v30 h =>
 (wi F L (.load false 1 (.c v30)) E0 h fun v31 h =>
 (wi F L (.call QdM [(.c v31), (.c (.str [108, 97, 115, 116, 45, 109, 111, 100, 105, 102, 105, 101, 100]))]) E0 h fun v32 h =>
 (Qle L K v3 v6 v7 v32 h))))
def Qoy (L : QL) (K : QK) (v3 v6 v7 v24 : V) (h : Heap) : Prop :=
 (wi F L (.faddr 14 (.c v7)) E0 h fun v25 h =>
 (wi F L (.store 1 (.c v25) (.c v24)) E0 h fun _ h =>
 (wi F L (.faddr 14 (.c v7)) E0 h fun v26 h =>
 (wi F L (.load false 1 (.c v26)) E0 h fun v27 h =>
 (wi F L (.bin .lss (.c v27) (.c (.int .i64 0))) E0 h fun v28 h =>
 (wb v28
 (wi F L (.faddr 14 (.c v7)) E0 h fun v29 h =>
 (wi F L (.store 1 (.c v29) (.c (.int .i64 (-1)))) E0 h fun _ h =>
 (QjX L K v3 v6 v7 h)))
 (QjX L K v3 v6 v7 h)))))))
def QoX (L : QL) (K : QK) (a1 a2 v3 v6 v15 v18 : V) (h' : Heap) : Prop :=
 (wi F L (.build [(.int .i64 0), (.bool false), (.bool false), (.bool false), (.bool false), (.bool false), (.bool false), (.bool false), (.int .i64 0), (.int .i64 0), (.int .i64 0), (.int .i64 0), (.int .i64 0), (.int .i64 0), (.int .i64 0), (.int .i64 0), (.int .i64 0), (.int .i64 0), (.int .i64 0), (.int .i64 0), (.str [])] [(0, 1, (.c v15)), (1, 13, (.c v18)), (18, 1, (.c a1)), (19, 1, (.c a2)), (17, 1, (.c (.int .i64 (-1))))]) E0 h' fun v21 h => Ext h' h ∧
 (wi F L (.boxz [(.int .i64 0), (.bool false), (.bool false), (.bool false), (.bool false), (.bool false), (.bool false), (.bool false), (.int .i64 0), (.int .i64 0), (.int .i64 0), (.int .i64 0), (.int .i64 0), (.int .i64 0), (.int .i64 0), (.int .i64 0), (.int .i64 0), (.int .i64 0), (.int .i64 0), (.int .i64 0), (.str [])]) E0 h fun v7 h' => Ext h h' ∧
 (wi F L (.store 21 (.c v7) (.c v21)) E0 h' fun _ h =>
 (wi F L (.faddr 3 (.c v3)) E0 h fun v22 h =>
 (wi F L (.load false 1 (.c v22)) E0 h fun v23 h =>
 (wi F L (.call QdM [(.c v23), (.c (.str [100, 97, 116, 101]))]) E0 h fun v24 h =>
 (Qoy L K v3 v6 v7 v24 h)))))))
def Qo6 (L : QL) (K : QK) (a0 a1 a2 : V) (h : Heap) : Prop :=
 (wi F L (.box (.c a0)) E0 h fun v3 h =>
 (wi F L (.boxz [(.int .i64 0), (.bool false), (.bool false), (.bool false), (.bool false), (.bool false), (.bool false), (.bool false), (.int .i64 0), (.int .i64 0), (.int .i64 0), (.int .i64 0), (.int .i64 0), (.int .i64 0), (.int .i64 0), (.int .i64 0), (.int .i64 0), (.int .i64 0), (.int .i64 0), (.int .i64 0), (.str [])]) E0 h fun v6 h =>
 (wi F L (.faddr 1 (.c v3)) E0 h fun v14 h' => Ext h h' ∧
 (wi F L (.load false 1 (.c v14)) E0 h' fun v15 h => Ext h' h ∧
 (wi F L (.faddr 3 (.c v3)) E0 h fun v16 h' => Ext h h' ∧
 (wi F L (.load false 1 (.c v16)) E0 h' fun v17 h => Ext h' h ∧
 (wi F L (.call QdR [(.c v17)]) E0 h fun v18 h' => Ext h h' ∧
 (QoX L K a1 a2 v3 v6 v15 v18 h'))))))))
theorem QEL {L : QL} {K : QK} {a0 a1 a2 : V} {h : Heap} (hp : Qo6 L K a0 a1 a2 h) : Cf F L Qfk [a0, a1, a2] h K :=
  wcallp QI4 (of_decide_eq_true (by kernel_rfl)) (p := Qo6 L K a0 a1 a2 h) (by kernel_rfl) hp
def Qlw (L : QL) (K : QK) (v3 v6 v63 : V) (h : Heap) : Prop :=
 (wg v63 false (wi F L (.faddr 3 (.c v6)) E0 h) h fun v65 h =>
 (wg v63 false (wi F L (.load false 1 (.c v65)) E0 h) h fun v66 h =>
 (wi F L (.pick (.c v63) (.c (.bool true)) (.c v66)) E0 h fun v67 h =>
 (wg v67 false (wi F L (.faddr 7 (.c v6)) E0 h) h fun v69 h =>
 (wg v67 false (wi F L (.load false 1 (.c v69)) E0 h) h fun v70 h =>
 (wg v67 false (wi F L (.bin .geq (.c v70) (.c (.int .i64 0))) E0 h) h fun v71 h =>
 (wi F L (.pick (.c v67) (.c (.bool true)) (.c v71)) E0 h fun v72 h =>
 (wg v72 false (wi F L (.faddr 8 (.c v6)) E0 h) h fun v74 h =>
 (wg v72 false (wi F L (.load false 1 (.c v74)) E0 h) h fun v75 h =>
 (wg v72 false (wi F L (.bin .geq (.c v75) (.c (.int .i64 0))) E0 h) h fun v76 h =>
 (wi F L (.pick (.c v72) (.c (.bool true)) (.c v76)) E0 h fun v77 h =>
 (wg v77 false (wi F L (.faddr 1 (.c v3)) E0 h) h fun v79 h =>
 (wg v77 false (wi F L (.load false 1 (.c v79)) E0 h) h fun v80 h =>
 (wg v77 false (wi F L (.call Qfm [(.c v80)]) E0 h) h fun v81 h =>
 (wi F L (.pick (.c v77) (.c (.bool true)) (.c v81)) E0 h fun v82 h =>
 (∃ v, some v82 = some v ∧ K v h))))))))))))))))
def QmI (L : QL) (K : QK) (v3 v6 : V) (h : Heap) : Prop :=
 (wi F L (.faddr 3 (.c v3)) E0 h fun v61 h =>
 (wi F L (.load false 1 (.c v61)) E0 h fun v62 h =>
 (wi F L (.call QcU [(.c v62), (.c (.str [69, 120, 112, 105, 114, 101, 115]))]) E0 h fun v63 h =>
 (Qlw L K v3 v6 v63 h))))
def Qj9 (L : QL) (K : QK) (v3 v6 v45 : V) (h : Heap) : Prop :=
 (wg v45 true (wi F L (.faddr 3 (.c v6)) E0 h) h fun v47 h =>
 (wg v45 true (wi F L (.load false 1 (.c v47)) E0 h) h fun v48 h =>
 (wg v45 true (wi F L (.un .not (.c v48)) E0 h) h fun v49 h =>
 (wi F L (.pick (.c v45) (.c v49) (.c (.bool false))) E0 h fun v50 h =>
 (wg v50 true (wi F L (.faddr 4 (.c v6)) E0 h) h fun v52 h =>
 (wg v50 true (wi F L (.load false 1 (.c v52)) E0 h) h fun v53 h =>
 (wg v50 true (wi F L (.un .not (.c v53)) E0 h) h fun v54 h =>
 (wi F L (.pick (.c v50) (.c v54) (.c (.bool false))) E0 h fun v55 h =>
 (wg v55 true (wi F L (.faddr 8 (.c v6)) E0 h) h fun v57 h =>
 (wg v55 true (wi F L (.load false 1 (.c v57)) E0 h) h fun v58 h =>
 (wg v55 true (wi F L (.bin .lss (.c v58) (.c (.int .i64 0))) E0 h) h fun v59 h =>
 (wi F L (.pick (.c v55) (.c v59) (.c (.bool false))) E0 h fun v60 h =>
 (wb v60
 (∃ v, some (.bool false) = some v ∧ K v h)
 (QmI L K v3 v6 h))))))))))))))
def Qkk (L : QL) (K : QK) (v2 v3 v6 v36 v40 : V) (h : Heap) : Prop :=
 (wi F L (.pick (.c v36) (.c (.bool true)) (.c v40)) E0 h fun v41 h =>
 (wb v41
 (∃ v, some (.bool false) = some v ∧ K v h)
 (wi F L (.faddr 3 (.c v2)) E0 h fun v43 h =>
 (wi F L (.load false 1 (.c v43)) E0 h fun v44 h =>
 (wi F L (.call QcU [(.c v44), (.c (.str [65, 117, 116, 104, 111, 114, 105, 122, 97, 116, 105, 111, 110]))]) E0 h fun v45 h =>
 (Qj9 L K v3 v6 v45 h))))))
def Qrb (L : QL) (K : QK) (v2 v3 v6 : V) (h : Heap) : Prop :=
 (wi F L (.faddr 1 (.c v3)) E0 h fun v30 h' => Ext h h' ∧
 (wi F L (.load false 1 (.c v30)) E0 h' fun v31 h => Ext h' h ∧
 (wi F L (.faddr 3 (.c v2)) E0 h fun v32 h' => Ext h h' ∧
 (wi F L (.load false 1 (.c v32)) E0 h' fun v33 h => Ext h' h ∧
 (wi F L (.call QcU [(.c v33), (.c (.str [82, 97, 110, 103, 101]))]) E0 h fun v34 h' => Ext h h' ∧
 (wi F L (.call Qgr [(.c v31), (.c v34)]) E0 h' fun v35 h =>
 (wi F L (.un .not (.c v35)) E0 h fun v36 h =>
 (wg v36 false (wi F L (.faddr 3 (.c v3)) E0 h) h fun v38 h =>
 (wg v36 false (wi F L (.load false 1 (.c v38)) E0 h) h fun v39 h =>
 (wg v36 false (wi F L (.call QfL [(.c v39)]) E0 h) h fun v40 h =>
 (Qkk L K v2 v3 v6 v36 v40 h)))))))))))
def QnH (L : QL) (K : QK) (v2 v3 v9 v12 : V) (h : Heap) : Prop :=
 (wi F L (.boxz [(.bool false), (.bool false), (.bool false), (.bool false), (.bool false), (.bool false), (.bool false), (.int .i64 0), (.int .i64 0), (.int .i64 0), (.int .i64 0), (.int .i64 0), (.int .i64 0)]) E0 h fun v5 h' => Ext h h' ∧
 (wi F L (.boxz [(.bool false), (.bool false), (.bool false), (.bool false), (.bool false), (.bool false), (.bool false), (.int .i64 0), (.int .i64 0), (.int .i64 0), (.int .i64 0), (.int .i64 0), (.int .i64 0)]) E0 h' fun v6 h => Ext h' h ∧
 (wi F L (.store 13 (.c v5) (.c v9)) E0 h fun _ h =>
 (wi F L (.store 13 (.c v6) (.c v12)) E0 h fun _ h =>
 (wi F L (.faddr 0 (.c v2)) E0 h fun v14 h =>
 (wi F L (.load false 1 (.c v14)) E0 h fun v15 h =>
 (wi F L (.bin .neq (.c v15) (.c (.str [71, 69, 84]))) E0 h fun v16 h =>
 (wg v16 false (wi F L (.faddr 0 (.c v5)) E0 h) h fun v18 h =>
 (wg v16 false (wi F L (.load false 1 (.c v18)) E0 h) h fun v19 h =>
 (wi F L (.pick (.c v16) (.c (.bool true)) (.c v19)) E0 h fun v20 h =>
 (wg v20 false (wi F L (.faddr 0 (.c v6)) E0 h) h fun v22 h =>
 (wg v20 false (wi F L (.load false 1 (.c v22)) E0 h) h fun v23 h =>
 (wi F L (.pick (.c v20) (.c (.bool true)) (.c v23)) E0 h fun v24 h =>
 (wg v24 false (wi F L (.faddr 2 (.c v6)) E0 h) h fun v26 h =>
 (wg v24 false (wi F L (.load false 1 (.c v26)) E0 h) h fun v27 h =>
 (wi F L (.pick (.c v24) (.c (.bool true)) (.c v27)) E0 h fun v28 h =>
 (wb v28
 (∃ v, some (.bool false) = some v ∧ K v h)
 (Qrb L K v2 v3 v6 h))))))))))))))))))
def QsD (L : QL) (K : QK) (v2 v3 : V) (h : Heap) : Prop :=
 (wi F L (.faddr 3 (.c v2)) E0 h fun v7 h' => Ext h h' ∧
 (wi F L (.load false 1 (.c v7)) E0 h' fun v8 h => Ext h' h ∧
 (wi F L (.call Qej [(.c v8)]) E0 h fun v9 h' => Ext h h' ∧
 (wi F L (.faddr 3 (.c v3)) E0 h' fun v10 h => Ext h' h ∧
 (wi F L (.load false 1 (.c v10)) E0 h fun v11 h' => Ext h h' ∧
 (wi F L (.call Qej [(.c v11)]) E0 h' fun v12 h => Ext h' h ∧
 (QnH L K v2 v3 v9 v12 h)))))))
def Qo3 (L : QL) (K : QK) (a0 a1 : V) (h : Heap) : Prop :=
 (wi F L (.box (.c a0)) E0 h fun v2 h =>
 (wi F L (.box (.c a1)) E0 h fun v3 h =>
 (QsD L K v2 v3 h)))
theorem QzF {L : QL} {K : QK} {a0 a1 : V} {h : Heap} (hp : Qo3 L K a0 a1 h) : Cf F L Qeo [a0, a1] h K :=
  wcallp QBs (of_decide_eq_true (by kernel_rfl)) (p := Qo3 L K a0 a1 h) (by kernel_rfl) hp
def Qqe (L : QL) (K : QK) (v3 v6 v108 : V) (h : Heap) : Prop :=
 (wg v108 false (wi F L (.faddr 3 (.c v6)) E0 h) h fun v110 h =>
 (wg v108 false (wi F L (.load false 1 (.c v110)) E0 h) h fun v111 h =>
 (wi F L (.pick (.c v108) (.c (.bool true)) (.c v111)) E0 h fun v112 h =>
 (wg v112 false (wi F L (.faddr 7 (.c v6)) E0 h) h fun v114 h =>
 (wg v112 false (wi F L (.load false 1 (.c v114)) E0 h) h fun v115 h =>
 (wg v112 false (wi F L (.bin .geq (.c v115) (.c (.int .i64 0))) E0 h) h fun v116 h =>
 (wi F L (.pick (.c v112) (.c (.bool true)) (.c v116)) E0 h fun v117 h =>
 (wg v117 false (wi F L (.faddr 8 (.c v6)) E0 h) h fun v119 h =>
 (wg v117 false (wi F L (.load false 1 (.c v119)) E0 h) h fun v120 h =>
 (wg v117 false (wi F L (.bin .geq (.c v120) (.c (.int .i64 0))) E0 h) h fun v121 h =>
 (wi F L (.pick (.c v117) (.c (.bool true)) (.c v121)) E0 h fun v122 h =>
 (wg v122 false (wi F L (.faddr 1 (.c v3)) E0 h) h fun v124 h =>
 (wg v122 false (wi F L (.load false 1 (.c v124)) E0 h) h fun v125 h =>
 (wg v122 false (wi F L (.call Qgj [(.c v125)]) E0 h) h fun v126 h =>
 (wi F L (.pick (.c v122) (.c (.bool true)) (.c v126)) E0 h fun v127 h =>
 (∃ v, some v127 = some v ∧ K v h))))))))))))))))
def Qqy (L : QL) (K : QK) (v3 v6 : V) (h : Heap) : Prop :=
 (wi F L (.faddr 3 (.c v3)) E0 h fun v106 h =>
 (wi F L (.load false 1 (.c v106)) E0 h fun v107 h =>
 (wi F L (.call Qda [(.c v107), (.c (.str [101, 120, 112, 105, 114, 101, 115]))]) E0 h fun v108 h =>
 (Qqe L K v3 v6 v108 h))))
def Qnh (L : QL) (K : QK) (v3 v6 v90 : V) (h : Heap) : Prop :=
 (wg v90 true (wi F L (.faddr 3 (.c v6)) E0 h) h fun v92 h =>
 (wg v90 true (wi F L (.load false 1 (.c v92)) E0 h) h fun v93 h =>
 (wg v90 true (wi F L (.un .not (.c v93)) E0 h) h fun v94 h =>
 (wi F L (.pick (.c v90) (.c v94) (.c (.bool false))) E0 h fun v95 h =>
 (wg v95 true (wi F L (.faddr 4 (.c v6)) E0 h) h fun v97 h =>
 (wg v95 true (wi F L (.load false 1 (.c v97)) E0 h) h fun v98 h =>
 (wg v95 true (wi F L (.un .not (.c v98)) E0 h) h fun v99 h =>
 (wi F L (.pick (.c v95) (.c v99) (.c (.bool false))) E0 h fun v100 h =>
 (wg v100 true (wi F L (.faddr 8 (.c v6)) E0 h) h fun v102 h =>
 (wg v100 true (wi F L (.load false 1 (.c v102)) E0 h) h fun v103 h =>
 (wg v100 true (wi F L (.bin .lss (.c v103) (.c (.int .i64 0))) E0 h) h fun v104 h =>
 (wi F L (.pick (.c v100) (.c v104) (.c (.bool false))) E0 h fun v105 h =>
 (wb v105
 (∃ v, some (.bool false) = some v ∧ K v h)
 (Qqy L K v3 v6 h))))))))))))))
def Qky (L : QL) (K : QK) (v2 v3 v6 : V) (h : Heap) : Prop :=
 (wi F L (.faddr 3 (.c v2)) E0 h fun v88 h =>
 (wi F L (.load false 1 (.c v88)) E0 h fun v89 h =>
 (wi F L (.call Qda [(.c v89), (.c (.str [97, 117, 116, 104, 111, 114, 105, 122, 97, 116, 105, 111, 110]))]) E0 h fun v90 h =>
 (Qnh L K v3 v6 v90 h))))
def Qss (L : QL) (K : QK) (N0 : QN) (e : Env) (v11 : V) (h : Heap) : Prop :=
 (wi F L (.bin .add (.c v11) (.c (.int .i64 1))) E0 h fun v82 h =>
 (N0 (upd (upd (upd e 81 v11) 82 v82) 11 v82) h))
def Qn6 (L : QL) (K : QK) (N0 : QN) (e : Env) (v9 v11 : V) (h : Heap) : Prop :=
 (wi F L (.ixaSl 1 (.c v9) (.c v11)) E0 h fun v85 h =>
 (wi F L (.load false 1 (.c v85)) E0 h fun v86 h =>
 (wi F L (.bin .eql (.c v86) (.c (.str [42]))) E0 h fun v87 h =>
 (wb v87
 (∃ v, some (.bool false) = some v ∧ K v h)
 (Qss L K N0 (upd (upd (upd (upd (upd e 83 v9) 84 v11) 85 v85) 86 v86) 87 v87) v11 h)))))
def QnK (L : QL) (K : QK) : X → Env → Heap → Prop := (fun x => (seqX (fun e h => Qky L K (e 2) (e 3) (e 6) h) (Qy QiJ.results K)) (X.out 0 x))
def Ql3 : C :=
 (.seq (.seq (.region [⟨(some 77), none, .mv (.t 11)⟩, ⟨(some 78), none, .mv (.t 9)⟩, ⟨(some 79), none, .len 1 (.t 78)⟩, ⟨(some 80), none, .bin .lss (.t 77) (.t 79)⟩])
 (.cond (.t 80)
 .skip
 (.exit 0)))
 (.seq (.block 1 (.seq (.region [⟨(some 83), none, .mv (.t 9)⟩, ⟨(some 84), none, .mv (.t 11)⟩, ⟨(some 85), none, .ixaSl 1 (.t 83) (.t 84)⟩, ⟨(some 86), none, .load false 1 (.t 85)⟩, ⟨(some 87), none, .bin .eql (.t 86) (.c (.str [42]))⟩])
 (.cond (.t 87)
 (.seq (.region [⟨(some 4), none, .mv (.c (.bool false))⟩])
 .ret)
 .skip)))
 (.region [⟨(some 81), none, .mv (.t 11)⟩, ⟨(some 82), none, .bin .add (.t 81) (.c (.int .i64 1))⟩, ⟨(some 11), none, .mv (.t 82)⟩])))
def Ql2 (L : QL) (K : QK) (N0 : QN) (e : Env) (h : Heap) : Prop :=
 (wi F L (.len 1 (.c (e 9))) E0 h fun v79 h =>
 (wi F L (.bin .lss (.c (e 11)) (.c v79)) E0 h fun v80 h =>
 (wb v80
 (Qn6 L K N0 (upd (upd (upd (upd e 77 (e 11)) 78 (e 9)) 79 v79) 80 v80) (e 9) (e 11) h)
 (Qky L K (e 2) (e 3) (e 6) h))))
theorem QJ3 {L : QL} {K : QK} (I : Nat → Env → Heap → Prop) (hr : ∀ n e h, I n e h → Ql2 L K (fun e' h' => ∃ m, m < n ∧ I m e' h') e h) {n : Nat} {e : Env} {h : Heap} (hi : I n e h) : Wl F L Ql3 (QnK L K) e h :=
  wloopp (b := Ql2 L K) I (fun _ _ _ => by kernel_rfl) hr hi
def QrH (L : QL) (K : QK) (e : Env) (h : Heap) : Prop :=
 (Wl F L Ql3 (QnK L K) (upd e 11 (.int .i64 0)) h)
def QlS (L : QL) (K : QK) (e : Env) (v65 v66 v67 v68 v69 v72 : V) (h : Heap) : Prop :=
 (wi F L (.ext 0 (.c v72)) E0 h fun v73 h =>
 (wi F L (.ext 1 (.c v72)) E0 h fun v74 h =>
 (wi F L (.un .not (.c v74)) E0 h fun v76 h =>
 (wb v76
 (∃ v, some (.bool false) = some v ∧ K v h)
 (QrH L K (upd (upd (upd (upd (upd (upd (upd (upd (upd (upd (upd (upd (upd (upd (upd (upd (upd e 65 v65) 66 v66) 67 v67) 64 v67) 68 v68) 69 v69) 7 v68) 8 v69) 71 v68) 72 v72) 70 v72) 73 v73) 74 v74) 9 v73) 10 v74) 75 v74) 76 v76)  h)))))
def Qm3 (L : QL) (K : QK) (e : Env) (v3 : V) (h : Heap) : Prop :=
 (wi F L (.faddr 3 (.c v3)) E0 h fun v65 h =>
 (wi F L (.load false 1 (.c v65)) E0 h fun v66 h =>
 (wi F L (.call QbU [(.c v66), (.c (.str [118, 97, 114, 121]))]) E0 h fun v67 h =>
 (wi F L (.ext 0 (.c v67)) E0 h fun v68 h =>
 (wi F L (.ext 1 (.c v67)) E0 h fun v69 h =>
 (wi F L (.call Qc4 [(.c v68)]) E0 h fun v72 h =>
 (QlS L K e v65 v66 v67 v68 v69 v72 h)))))))
def Qn9 (L : QL) (K : QK) (e : Env) (v3 v46 v47 v48 : V) (h : Heap) : Prop :=
 (wg v48 true (wi F L (.faddr 1 (.c v3)) E0 h) h fun v50 h =>
 (wg v48 true (wi F L (.load false 1 (.c v50)) E0 h) h fun v51 h =>
 (wg v48 true (wi F L (.bin .neq (.c v51) (.c (.int .i64 200))) E0 h) h fun v52 h =>
 (wi F L (.pick (.c v48) (.c v52) (.c (.bool false))) E0 h fun v53 h =>
 (wg v53 true (wi F L (.faddr 1 (.c v3)) E0 h) h fun v55 h =>
 (wg v53 true (wi F L (.load false 1 (.c v55)) E0 h) h fun v56 h =>
 (wg v53 true (wi F L (.bin .neq (.c v56) (.c (.int .i64 206))) E0 h) h fun v57 h =>
 (wi F L (.pick (.c v53) (.c v57) (.c (.bool false))) E0 h fun v58 h =>
 (wg v58 true (wi F L (.faddr 1 (.c v3)) E0 h) h fun v60 h =>
 (wg v58 true (wi F L (.load false 1 (.c v60)) E0 h) h fun v61 h =>
 (wg v58 true (wi F L (.bin .lss (.c v61) (.c (.int .i64 300))) E0 h) h fun v62 h =>
 (wi F L (.pick (.c v58) (.c v62) (.c (.bool false))) E0 h fun v63 h =>
 (wb v63
 (∃ v, some (.bool false) = some v ∧ K v h)
 (Qm3 L K (upd (upd (upd (upd (upd (upd (upd (upd (upd (upd (upd (upd (upd (upd (upd (upd (upd (upd e 46 v46) 47 v47) 48 v48) 49 v48) 50 v50) 51 v51) 52 v52) 53 v53) 54 v53) 55 v55) 56 v56) 57 v57) 58 v58) 59 v58) 60 v60) 61 v61) 62 v62) 63 v63) v3 h))))))))))))))
def QlE (L : QL) (K : QK) (e : Env) (v2 v3 : V) (h : Heap) : Prop :=
 (wi F L (.faddr 3 (.c v2)) E0 h fun v46 h =>
 (wi F L (.load false 1 (.c v46)) E0 h fun v47 h =>
 (wi F L (.call Qda [(.c v47), (.c (.str [114, 97, 110, 103, 101]))]) E0 h fun v48 h =>
 (Qn9 L K e v3 v46 v47 v48 h))))
def Qrf (L : QL) (K : QK) (e : Env) (v2 v3 : V) (h : Heap) : Prop :=
 (wi F L (.faddr 1 (.c v3)) E0 h fun v33 h =>
 (wi F L (.load false 1 (.c v33)) E0 h fun v34 h =>
 (wi F L (.bin .lss (.c v34) (.c (.int .i64 200))) E0 h fun v35 h =>
 (wg v35 false (wi F L (.faddr 1 (.c v3)) E0 h) h fun v37 h =>
 (wg v35 false (wi F L (.load false 1 (.c v37)) E0 h) h fun v38 h =>
 (wg v35 false (wi F L (.bin .gtr (.c v38) (.c (.int .i64 599))) E0 h) h fun v39 h =>
 (wi F L (.pick (.c v35) (.c (.bool true)) (.c v39)) E0 h fun v40 h =>
 (wg v40 false (wi F L (.faddr 1 (.c v3)) E0 h) h fun v42 h =>
 (wg v40 false (wi F L (.load false 1 (.c v42)) E0 h) h fun v43 h =>
 (wg v40 false (wi F L (.bin .eql (.c v43) (.c (.int .i64 304))) E0 h) h fun v44 h =>
 (wi F L (.pick (.c v40) (.c (.bool true)) (.c v44)) E0 h fun v45 h =>
 (wb v45
 (∃ v, some (.bool false) = some v ∧ K v h)
 (QlE L K (upd (upd (upd (upd (upd (upd (upd (upd (upd (upd (upd (upd (upd e 33 v33) 34 v34) 35 v35) 36 v35) 37 v37) 38 v38) 39 v39) 40 v40) 41 v40) 42 v42) 43 v43) 44 v44) 45 v45) v2 v3 h)))))))))))))
def Qq6 (L : QL) (K : QK) (a0 a1 v2 v3 v5 v12 v13 v14 v15 v16 v17 : V) (h : Heap) : Prop :=
 (wi F L (.boxz [(.bool false), (.bool false), (.bool false), (.bool false), (.bool false), (.bool false), (.bool false), (.int .i64 0), (.int .i64 0), (.int .i64 0), (.int .i64 0), (.int .i64 0), (.int .i64 0)]) E0 h fun v6 h =>
 (wi F L (.store 13 (.c v6) (.c v17)) E0 h fun _ h =>
 (wi F L (.faddr 0 (.c v2)) E0 h fun v18 h =>
 (wi F L (.load false 1 (.c v18)) E0 h fun v19 h =>
 (wi F L (.bin .neq (.c v19) (.c (.str [71, 69, 84]))) E0 h fun v20 h =>
 (wg v20 false (wi F L (.faddr 0 (.c v5)) E0 h) h fun v22 h =>
 (wg v20 false (wi F L (.load false 1 (.c v22)) E0 h) h fun v23 h =>
 (wi F L (.pick (.c v20) (.c (.bool true)) (.c v23)) E0 h fun v24 h =>
 (wg v24 false (wi F L (.faddr 0 (.c v6)) E0 h) h fun v26 h =>
 (wg v24 false (wi F L (.load false 1 (.c v26)) E0 h) h fun v27 h =>
 (wi F L (.pick (.c v24) (.c (.bool true)) (.c v27)) E0 h fun v28 h =>
 (wg v28 false (wi F L (.faddr 2 (.c v6)) E0 h) h fun v30 h =>
 (wg v28 false (wi F L (.load false 1 (.c v30)) E0 h) h fun v31 h =>
 (wi F L (.pick (.c v28) (.c (.bool true)) (.c v31)) E0 h fun v32 h =>
 (wb v32
 (∃ v, some (.bool false) = some v ∧ K v h)
 (Qrf L K (upd (upd (upd (upd (upd (upd (upd (upd (upd (upd (upd (upd (upd (upd (upd (upd (upd (upd (upd (upd (upd (upd (upd (upd (upd (upd (Qd [a0, a1]) 2 v2) 3 v3) 4 (.bool false)) 12 v12) 13 v13) 14 v14) 5 v5) 15 v15) 16 v16) 17 v17) 6 v6) 18 v18) 19 v19) 20 v20) 21 v20) 22 v22) 23 v23) 24 v24) 25 v24) 26 v26) 27 v27) 28 v28) 29 v28) 30 v30) 31 v31) 32 v32) v2 v3 h))))))))))))))))
def Qqh (L : QL) (K : QK) (a0 a1 v2 v3 v12 v13 v14 : V) (h : Heap) : Prop :=
 (wi F L (.boxz [(.bool false), (.bool false), (.bool false), (.bool false), (.bool false), (.bool false), (.bool false), (.int .i64 0), (.int .i64 0), (.int .i64 0), (.int .i64 0), (.int .i64 0), (.int .i64 0)]) E0 h fun v5 h =>
 (wi F L (.store 13 (.c v5) (.c v14)) E0 h fun _ h =>
 (wi F L (.faddr 3 (.c v3)) E0 h fun v15 h =>
 (wi F L (.load false 1 (.c v15)) E0 h fun v16 h =>
 (wi F L (.call QdR [(.c v16)]) E0 h fun v17 h =>
 (Qq6 L K a0 a1 v2 v3 v5 v12 v13 v14 v15 v16 v17 h))))))
def Qmh (L : QL) (K : QK) (a0 a1 : V) (h : Heap) : Prop :=
 (wi F L (.box (.c a0)) E0 h fun v2 h =>
 (wi F L (.box (.c a1)) E0 h fun v3 h =>
 (wi F L (.faddr 3 (.c v2)) E0 h fun v12 h =>
 (wi F L (.load false 1 (.c v12)) E0 h fun v13 h =>
 (wi F L (.call QdR [(.c v13)]) E0 h fun v14 h =>
 (Qqh L K a0 a1 v2 v3 v12 v13 v14 h))))))
theorem QEu {L : QL} {K : QK} {a0 a1 : V} {h : Heap} (hp : Qmh L K a0 a1 h) : Cf F L Qfz [a0, a1] h K :=
  wcallp QBL (of_decide_eq_true (by kernel_rfl)) (p := Qmh L K a0 a1 h) (by kernel_rfl) hp
def Qkx (L : QL) (K : QK) (v3 v4 v5 v10 v12 v15 : V) (h : Heap) : Prop :=
 (wi F L (.app 2 32 false (.c v15) (.c v12)) E0 h fun v56 h =>
 (wi F L (.faddr 0 (.c v5)) E0 h fun v57 h =>
 (wi F L (.load false 1 (.c v57)) E0 h fun v58 h =>
 (wi F L (.build [(.int .i64 0), (.int .i64 0), (.str []), .nsl] [(1, 1, (.c v58)), (3, 1, (.c v56))]) E0 h fun v60 h =>
 (wi F L (.call Qfk [(.c v60), (.c v3), (.c v4)]) E0 h fun v63 h =>
 (wi F L (.store 21 (.c v10) (.c v63)) E0 h fun _ h =>
 (∃ v, Qa h (Qd [v10, v56]) [.cell 0 true 21, .tmp 1] = some v ∧ K v h)))))))
def Qi3 (L : QL) (K : QK) (N0 : QN) (e : Env) (v16 : V) (h : Heap) : Prop :=
 (wi F L (.bin .add (.c v16) (.c (.int .i64 1))) E0 h fun v38 h =>
 (N0 (upd (upd (upd e 37 v16) 38 v38) 16 v38) h))
def QnF (L : QL) (K : QK) (N0 : QN) (e : Env) (v1 v12 v15 v16 v42 v43 v44 v45 : V) (h : Heap) : Prop :=
 (wi F L (.un .not (.c v45)) E0 h fun v46 h =>
 (wb v46
 (wi F L (.ixaSl 2 (.c v1) (.c v16)) E0 h fun v50 h =>
 (wi F L (.load true 2 (.c v50)) E0 h fun v51 h =>
 (wi F L (.bsl 2 [(.c v51)]) E0 h fun v52 h =>
 (wi F L (.app 2 32 false (.c v15) (.c v52)) E0 h fun v53 h =>
 (Qi3 L K N0 (upd (upd (upd (upd (upd (upd (upd (upd (upd (upd (upd (upd (upd (upd (upd (upd e 39 v12) 40 v1) 41 v16) 42 v42) 43 v43) 44 v44) 45 v45) 46 v46) 47 v15) 48 v1) 49 v16) 50 v50) 51 v51) 52 v52) 53 v53) 15 v53) v16 h)))))
 (Qi3 L K N0 (upd (upd (upd (upd (upd (upd (upd (upd e 39 v12) 40 v1) 41 v16) 42 v42) 43 v43) 44 v44) 45 v45) 46 v46) v16 h)))
def QtN (L : QL) (K : QK) (N0 : QN) (e : Env) (v1 v12 v15 v16 : V) (h : Heap) : Prop :=
 (wi F L (.ixaSl 2 (.c v1) (.c v16)) E0 h fun v42 h =>
 (wi F L (.faddr 0 (.c v42)) E0 h fun v43 h =>
 (wi F L (.load false 1 (.c v43)) E0 h fun v44 h =>
 (wi F L (.call Qda [(.c v12), (.c v44)]) E0 h fun v45 h =>
 (QnF L K N0 e v1 v12 v15 v16 v42 v43 v44 v45 h)))))
def QpR (L : QL) (K : QK) : X → Env → Heap → Prop := (fun x => (seqX (fun e h => Qkx L K (e 3) (e 4) (e 5) (e 10) (e 12) (e 15) h) (Qy Qh8.results K)) (X.out 2 x))
def Qoq : C :=
 (.seq (.seq (.region [⟨(some 33), none, .mv (.t 16)⟩, ⟨(some 34), none, .mv (.t 1)⟩, ⟨(some 35), none, .len 1 (.t 34)⟩, ⟨(some 36), none, .bin .lss (.t 33) (.t 35)⟩])
 (.cond (.t 36)
 .skip
 (.exit 2)))
 (.seq (.block 3 (.seq (.region [⟨(some 39), none, .mv (.t 12)⟩, ⟨(some 40), none, .mv (.t 1)⟩, ⟨(some 41), none, .mv (.t 16)⟩, ⟨(some 42), none, .ixaSl 2 (.t 40) (.t 41)⟩, ⟨(some 43), none, .faddr 0 (.t 42)⟩, ⟨(some 44), none, .load false 1 (.t 43)⟩, ⟨(some 45), none, .call Qda [(.t 39), (.t 44)]⟩, ⟨(some 46), none, .un .not (.t 45)⟩])
 (.cond (.t 46)
 (.region [⟨(some 47), none, .mv (.t 15)⟩, ⟨(some 48), none, .mv (.t 1)⟩, ⟨(some 49), none, .mv (.t 16)⟩, ⟨(some 50), none, .ixaSl 2 (.t 48) (.t 49)⟩, ⟨(some 51), none, .load true 2 (.t 50)⟩, ⟨(some 52), none, .bsl 2 [(.t 51)]⟩, ⟨(some 53), none, .app 2 32 false (.t 47) (.t 52)⟩, ⟨(some 15), none, .mv (.t 53)⟩])
 .skip)))
 (.region [⟨(some 37), none, .mv (.t 16)⟩, ⟨(some 38), none, .bin .add (.t 37) (.c (.int .i64 1))⟩, ⟨(some 16), none, .mv (.t 38)⟩])))
def QlA (L : QL) (K : QK) (N0 : QN) (e : Env) (h : Heap) : Prop :=
 (wi F L (.len 1 (.c (e 1))) E0 h fun v35 h =>
 (wi F L (.bin .lss (.c (e 16)) (.c v35)) E0 h fun v36 h =>
 (wb v36
 (QtN L K N0 (upd (upd (upd (upd e 33 (e 16)) 34 (e 1)) 35 v35) 36 v36) (e 1) (e 12) (e 15) (e 16) h)
 (Qkx L K (e 3) (e 4) (e 5) (e 10) (e 12) (e 15) h))))
theorem Qwo {L : QL} {K : QK} (I : Nat → Env → Heap → Prop) (hr : ∀ n e h, I n e h → QlA L K (fun e' h' => ∃ m, m < n ∧ I m e' h') e h) {n : Nat} {e : Env} {h : Heap} (hi : I n e h) : Wl F L Qoq (QpR L K) e h :=
  wloopp (b := QlA L K) I (fun _ _ _ => by kernel_rfl) hr hi
def Qpa (L : QL) (K : QK) (e : Env) (h : Heap) : Prop :=
 (Wl F L Qoq (QpR L K) (upd (upd e 15 .nsl) 16 (.int .i64 0)) h)
def QtC (L : QL) (K : QK) (N0 : QN) (e : Env) (v14 : V) (h : Heap) : Prop :=
 (wi F L (.bin .add (.c v14) (.c (.int .i64 1))) E0 h fun v26 h =>
 (N0 (upd (upd (upd e 25 v14) 26 v26) 14 v26) h))
def QtX (L : QL) (K : QK) (N0 : QN) (e : Env) (v12 v13 v14 : V) (h : Heap) : Prop :=
 (wi F L (.ixaSl 1 (.c v13) (.c v14)) E0 h fun v30 h =>
 (wi F L (.load false 1 (.c v30)) E0 h fun v31 h =>
 (wi F L (.call Qdq [(.c v12), (.c v31)]) E0 h fun v32 h =>
 (QtC L K N0 (upd (upd (upd (upd (upd (upd (upd e 27 v12) 28 v13) 29 v14) 30 v30) 31 v31) 32 v32) 12 v32) v14 h))))
def Qvn (L : QL) (K : QK) : X → Env → Heap → Prop := (fun x => (seqX (fun e h => Qpa L K e  h) (Qy Qh8.results K)) (X.out 0 x))
def Qrn : C :=
 (.seq (.seq (.region [⟨(some 21), none, .mv (.t 14)⟩, ⟨(some 22), none, .mv (.t 13)⟩, ⟨(some 23), none, .len 1 (.t 22)⟩, ⟨(some 24), none, .bin .lss (.t 21) (.t 23)⟩])
 (.cond (.t 24)
 .skip
 (.exit 0)))
 (.seq (.block 1 (.region [⟨(some 27), none, .mv (.t 12)⟩, ⟨(some 28), none, .mv (.t 13)⟩, ⟨(some 29), none, .mv (.t 14)⟩, ⟨(some 30), none, .ixaSl 1 (.t 28) (.t 29)⟩, ⟨(some 31), none, .load false 1 (.t 30)⟩, ⟨(some 32), none, .call Qdq [(.t 27), (.t 31)]⟩, ⟨(some 12), none, .mv (.t 32)⟩]))
 (.region [⟨(some 25), none, .mv (.t 14)⟩, ⟨(some 26), none, .bin .add (.t 25) (.c (.int .i64 1))⟩, ⟨(some 14), none, .mv (.t 26)⟩])))
def Qla (L : QL) (K : QK) (N0 : QN) (e : Env) (h : Heap) : Prop :=
 (wi F L (.len 1 (.c (e 13))) E0 h fun v23 h =>
 (wi F L (.bin .lss (.c (e 14)) (.c v23)) E0 h fun v24 h =>
 (wb v24
 (QtX L K N0 (upd (upd (upd (upd e 21 (e 14)) 22 (e 13)) 23 v23) 24 v24) (e 12) (e 13) (e 14) h)
 (Qpa L K (upd (upd (upd (upd e 21 (e 14)) 22 (e 13)) 23 v23) 24 v24)  h))))
theorem QIJ {L : QL} {K : QK} (I : Nat → Env → Heap → Prop) (hr : ∀ n e h, I n e h → Qla L K (fun e' h' => ∃ m, m < n ∧ I m e' h') e h) {n : Nat} {e : Env} {h : Heap} (hi : I n e h) : Wl F L Qrn (Qvn L K) e h :=
  wloopp (b := Qla L K) I (fun _ _ _ => by kernel_rfl) hr hi
def Qtc (L : QL) (K : QK) (a0 a1 a2 a3 a4 v5 v7 v10 v17 v18 v19 : V) (h : Heap) : Prop :=
 (wi F L (.bsl 1 [(.c (.str [99, 111, 110, 116, 101, 110, 116, 45, 108, 101, 110, 103, 116, 104])), (.c (.str [99, 111, 110, 116, 101, 110, 116, 45, 101, 110, 99, 111, 100, 105, 110, 103])), (.c (.str [99, 111, 110, 116, 101, 110, 116, 45, 114, 97, 110, 103, 101])), (.c (.str [99, 111, 110, 116, 101, 110, 116, 45, 116, 121, 112, 101])), (.c (.str [116, 114, 97, 110, 115, 102, 101, 114, 45, 101, 110, 99, 111, 100, 105, 110, 103]))]) E0 h fun v20 h =>
 (Wl F L Qrn (Qvn L K) (upd (upd (upd (upd (upd (upd (upd (upd (upd (upd (upd (Qd [a0, a1, a2, a3, a4]) 5 v5) 7 v7) 10 v10) 11 .nsl) 17 v17) 18 v18) 19 v19) 12 v19) 20 v20) 13 v20) 14 (.int .i64 0)) h))
def Qnf (L : QL) (K : QK) (a0 a1 a2 a3 a4 : V) (h : Heap) : Prop :=
 (wi F L (.box (.c a0)) E0 h fun v5 h =>
 (wi F L (.box (.c a2)) E0 h fun v7 h =>
 (wi F L (.boxz [(.int .i64 0), (.bool false), (.bool false), (.bool false), (.bool false), (.bool false), (.bool false), (.bool false), (.int .i64 0), (.int .i64 0), (.int .i64 0), (.int .i64 0), (.int .i64 0), (.int .i64 0), (.int .i64 0), (.int .i64 0), (.int .i64 0), (.int .i64 0), (.int .i64 0), (.int .i64 0), (.str [])]) E0 h fun v10 h =>
 (wi F L (.faddr 3 (.c v7)) E0 h fun v17 h =>
 (wi F L (.load false 1 (.c v17)) E0 h fun v18 h =>
 (wi F L (.call Qgl [(.c v18)]) E0 h fun v19 h =>
 (Qtc L K a0 a1 a2 a3 a4 v5 v7 v10 v17 v18 v19 h)))))))
theorem QxM {L : QL} {K : QK} {a0 a1 a2 a3 a4 : V} {h : Heap} (hp : Qnf L K a0 a1 a2 a3 a4 h) : Cf F L QfB [a0, a1, a2, a3, a4] h K :=
  wcallp QJP (of_decide_eq_true (by kernel_rfl)) (p := Qnf L K a0 a1 a2 a3 a4 h) (by kernel_rfl) hp
def QdO (L : QL) (K : QK) (h : Heap) : Prop :=
 (∃ v, some (.bool true) = some v ∧ K v h)
def QeT (L : QL) (K : QK) (N0 : QN) (e : Env) (v5 : V) (h : Heap) : Prop :=
 (wi F L (.bin .add (.c v5) (.c (.int .i64 1))) E0 h fun v16 h =>
 (N0 (upd (upd (upd e 15 v5) 16 v16) 5 v16) h))
def QeY (L : QL) (K : QK) (N0 : QN) (e : Env) (v0 v1 v5 : V) (h : Heap) : Prop :=
 (wi F L (.ixaSl 2 (.c v0) (.c v5)) E0 h fun v19 h' => Ext h h' ∧
 (wi F L (.faddr 0 (.c v19)) E0 h' fun v20 h => Ext h' h ∧
 (wi F L (.load false 1 (.c v20)) E0 h fun v21 h' => Ext h h' ∧
 (wi F L (.ixaSl 2 (.c v1) (.c v5)) E0 h' fun v24 h => Ext h' h ∧
 (wi F L (.faddr 0 (.c v24)) E0 h fun v25 h' => Ext h h' ∧
 (wi F L (.load false 1 (.c v25)) E0 h' fun v26 h => Ext h' h ∧
 (wi F L (.bin .neq (.c v21) (.c v26)) E0 h fun v27 h' => Ext h h' ∧
 (wgd v27 false (wi F L (.mv (.c v0)) E0 h') h' fun v29 h =>
 (wgd v27 false (wi F L (.mv (.c v5)) E0 h) h fun v30 h' =>
 (wgd v27 false (wi F L (.ixaSl 2 (.c v29) (.c v30)) E0 h') h' fun v31 h =>
 (wgd v27 false (wi F L (.faddr 1 (.c v31)) E0 h) h fun v32 h' =>
 (wgd v27 false (wi F L (.load false 1 (.c v32)) E0 h') h' fun v33 h =>
 (wgd v27 false (wi F L (.mv (.c v1)) E0 h) h fun v34 h' =>
 (wgd v27 false (wi F L (.mv (.c v5)) E0 h') h' fun v35 h =>
 (wgd v27 false (wi F L (.ixaSl 2 (.c v34) (.c v35)) E0 h) h fun v36 h' =>
 (wgd v27 false (wi F L (.faddr 1 (.c v36)) E0 h') h' fun v37 h =>
 (wgd v27 false (wi F L (.load false 1 (.c v37)) E0 h) h fun v38 h' =>
 (wg v27 false (wi F L (.bin .neq (.c v33) (.c v38)) E0 h') h' fun v39 h =>
 (wi F L (.pick (.c v27) (.c (.bool true)) (.c v39)) E0 h fun v40 h =>
 (wb v40
 (∃ v, some (.bool false) = some v ∧ K v h)
 (QeT L K N0 (upd (upd (upd (upd (upd (upd (upd (upd (upd (upd (upd (upd (upd (upd (upd (upd (upd (upd (upd (upd (upd (upd (upd (upd e 17 v0) 18 v5) 19 v19) 20 v20) 21 v21) 22 v1) 23 v5) 24 v24) 25 v25) 26 v26) 27 v27) 28 v27) 29 v29) 30 v30) 31 v31) 32 v32) 33 v33) 34 v34) 35 v35) 36 v36) 37 v37) 38 v38) 39 v39) 40 v40) v5 h)))))))))))))))))))))
def Qt6 (L : QL) (K : QK) : X → Env → Heap → Prop := (fun x => (seqX (fun e h => QdO L K  h) (Qy QjE.results K)) (X.out 0 x))
def Qu5 : C :=
 (.seq (.seq (.region [⟨(some 11), none, .mv (.t 5)⟩, ⟨(some 12), none, .mv (.t 0)⟩, ⟨(some 13), none, .len 1 (.t 12)⟩, ⟨(some 14), none, .bin .lss (.t 11) (.t 13)⟩])
 (.cond (.t 14)
 .skip
 (.exit 0)))
 (.seq (.block 1 (.seq (.dregion [⟨(some 17), none, .mv (.t 0)⟩, ⟨(some 18), none, .mv (.t 5)⟩, ⟨(some 19), none, .ixaSl 2 (.t 17) (.t 18)⟩, ⟨(some 20), none, .faddr 0 (.t 19)⟩, ⟨(some 21), none, .load false 1 (.t 20)⟩, ⟨(some 22), none, .mv (.t 1)⟩, ⟨(some 23), none, .mv (.t 5)⟩, ⟨(some 24), none, .ixaSl 2 (.t 22) (.t 23)⟩, ⟨(some 25), none, .faddr 0 (.t 24)⟩, ⟨(some 26), none, .load false 1 (.t 25)⟩, ⟨(some 27), none, .bin .neq (.t 21) (.t 26)⟩, ⟨(some 28), none, .mv (.t 27)⟩, ⟨(some 29), (some (28, false)), .mv (.t 0)⟩, ⟨(some 30), (some (28, false)), .mv (.t 5)⟩, ⟨(some 31), (some (28, false)), .ixaSl 2 (.t 29) (.t 30)⟩, ⟨(some 32), (some (28, false)), .faddr 1 (.t 31)⟩, ⟨(some 33), (some (28, false)), .load false 1 (.t 32)⟩, ⟨(some 34), (some (28, false)), .mv (.t 1)⟩, ⟨(some 35), (some (28, false)), .mv (.t 5)⟩, ⟨(some 36), (some (28, false)), .ixaSl 2 (.t 34) (.t 35)⟩, ⟨(some 37), (some (28, false)), .faddr 1 (.t 36)⟩, ⟨(some 38), (some (28, false)), .load false 1 (.t 37)⟩] [⟨(some 39), (some (28, false)), .bin .neq (.t 33) (.t 38)⟩, ⟨(some 40), none, .pick (.t 28) (.c (.bool true)) (.t 39)⟩])
 (.cond (.t 40)
 (.seq (.region [⟨(some 4), none, .mv (.c (.bool false))⟩])
 .ret)
 .skip)))
 (.region [⟨(some 15), none, .mv (.t 5)⟩, ⟨(some 16), none, .bin .add (.t 15) (.c (.int .i64 1))⟩, ⟨(some 5), none, .mv (.t 16)⟩])))
def Qqj (L : QL) (K : QK) (N0 : QN) (e : Env) (h : Heap) : Prop :=
 (wi F L (.len 1 (.c (e 0))) E0 h fun v13 h =>
 (wi F L (.bin .lss (.c (e 5)) (.c v13)) E0 h fun v14 h =>
 (wb v14
 (QeY L K N0 (upd (upd (upd (upd e 11 (e 5)) 12 (e 0)) 13 v13) 14 v14) (e 0) (e 1) (e 5) h)
 (QdO L K  h))))
theorem QEo {L : QL} {K : QK} (I : Nat → Env → Heap → Prop) (hr : ∀ n e h, I n e h → Qqj L K (fun e' h' => ∃ m, m < n ∧ I m e' h') e h) {n : Nat} {e : Env} {h : Heap} (hi : I n e h) : Wl F L Qu5 (Qt6 L K) e h :=
  wloopp (b := Qqj L K) I (fun _ _ _ => by kernel_rfl) hr hi
def QeF (L : QL) (K : QK) (e : Env) (h : Heap) : Prop :=
 (Wl F L Qu5 (Qt6 L K) (upd e 5 (.int .i64 0)) h)
def QmN (L : QL) (K : QK) (a0 a1 : V) (h : Heap) : Prop :=
 (wi F L (.len 1 (.c a0)) E0 h fun v7 h =>
 (wi F L (.len 1 (.c a1)) E0 h fun v9 h =>
 (wi F L (.bin .neq (.c v7) (.c v9)) E0 h fun v10 h =>
 (wb v10
 (∃ v, some (.bool false) = some v ∧ K v h)
 (QeF L K (upd (upd (upd (upd (upd (upd (Qd [a0, a1]) 4 (.bool false)) 6 a0) 7 v7) 8 a1) 9 v9) 10 v10)  h)))))
theorem QBV {L : QL} {K : QK} {a0 a1 : V} {h : Heap} (hp : QmN L K a0 a1 h) : Cf F L QfZ [a0, a1] h K :=
  wcallp QCh (of_decide_eq_true (by kernel_rfl)) (p := QmN L K a0 a1 h) (by kernel_rfl) hp
def QgJ (L : QL) (K : QK) (v3 : V) (h : Heap) : Prop :=
 (wi F L (.toStr (.c v3)) E0 h fun v28 h =>
 (∃ v, some v28 = some v ∧ K v h))
def QgH (L : QL) (K : QK) (N0 : QN) (e : Env) (v10 : V) (h : Heap) : Prop :=
 (wi F L (.bin .add (.c v10) (.c (.int .i64 1))) E0 h fun v26 h =>
 (N0 (upd (upd e 26 v26) 10 v26) h))
def Qiz (L : QL) (K : QK) (N0 : QN) (e : Env) (v3 v8 v10 : V) (h : Heap) : Prop :=
 (wi F L (.ixaSl 1 (.c v8) (.c v10)) E0 h fun v13 h =>
 (wi F L (.load false 1 (.c v13)) E0 h fun v14 h =>
 (wi F L (.bin .geq (.c v14) (.c (.int .u8 65))) E0 h fun v16 h =>
 (wg v16 true (wi F L (.mv (.c v14)) E0 h) h fun v18 h =>
 (wg v16 true (wi F L (.bin .leq (.c v18) (.c (.int .u8 90))) E0 h) h fun v19 h =>
 (wi F L (.pick (.c v16) (.c v19) (.c (.bool false))) E0 h fun v20 h =>
 (wb v20
 (wi F L (.bin .or (.c v14) (.c (.int .u8 32))) E0 h fun v24 h =>
 (wi F L (.ixaSl 1 (.c v3) (.c v10)) E0 h fun v25 h =>
 (wi F L (.store 1 (.c v25) (.c v24)) E0 h fun _ h =>
 (QgH L K N0 (upd (upd (upd (upd (upd (upd (upd (upd (upd (upd (upd (upd (upd (upd (upd (upd e 12 v10) 13 v13) 14 v14) 4 v10) 5 v14) 15 v14) 16 v16) 17 v16) 18 v18) 19 v19) 20 v20) 21 v3) 22 v10) 23 v14) 24 v24) 25 v25) v10 h))))
 (QgH L K N0 (upd (upd (upd (upd (upd (upd (upd (upd (upd (upd (upd e 12 v10) 13 v13) 14 v14) 4 v10) 5 v14) 15 v14) 16 v16) 17 v16) 18 v18) 19 v19) 20 v20) v10 h))))))))
def Quq (L : QL) (K : QK) : X → Env → Heap → Prop := (fun x => (seqX (fun e h => QgJ L K (e 3) h) (Qy Qi2.results K)) (X.out 0 x))
def Qta : C :=
 (.seq (.region [⟨(some 11), none, .bin .lss (.t 10) (.t 9)⟩])
 (.seq (.cond (.t 11)
 .skip
 (.exit 0))
 (.seq (.block 1 (.seq (.region [⟨(some 12), none, .mv (.t 10)⟩, ⟨(some 13), none, .ixaSl 1 (.t 8) (.t 10)⟩, ⟨(some 14), none, .load false 1 (.t 13)⟩, ⟨(some 4), none, .mv (.t 12)⟩, ⟨(some 5), none, .mv (.t 14)⟩])
 (.seq (.region [⟨(some 15), none, .mv (.t 5)⟩, ⟨(some 16), none, .bin .geq (.t 15) (.c (.int .u8 65))⟩, ⟨(some 17), none, .mv (.t 16)⟩, ⟨(some 18), (some (17, true)), .mv (.t 5)⟩, ⟨(some 19), (some (17, true)), .bin .leq (.t 18) (.c (.int .u8 90))⟩, ⟨(some 20), none, .pick (.t 17) (.t 19) (.c (.bool false))⟩])
 (.cond (.t 20)
 (.region [⟨(some 21), none, .mv (.t 3)⟩, ⟨(some 22), none, .mv (.t 4)⟩, ⟨(some 23), none, .mv (.t 5)⟩, ⟨(some 24), none, .bin .or (.t 23) (.c (.int .u8 32))⟩, ⟨(some 25), none, .ixaSl 1 (.t 21) (.t 22)⟩, ⟨none, none, .store 1 (.t 25) (.t 24)⟩])
 .skip))))
 (.region [⟨(some 26), none, .bin .add (.t 10) (.c (.int .i64 1))⟩, ⟨(some 10), none, .mv (.t 26)⟩]))))
def QqI (L : QL) (K : QK) (N0 : QN) (e : Env) (h : Heap) : Prop :=
 (wi F L (.bin .lss (.c (e 10)) (.c (e 9))) E0 h fun v11 h =>
 (wb v11
 (Qiz L K N0 (upd e 11 v11) (e 3) (e 8) (e 10) h)
 (QgJ L K (e 3) h)))
theorem QxZ {L : QL} {K : QK} (I : Nat → Env → Heap → Prop) (hr : ∀ n e h, I n e h → QqI L K (fun e' h' => ∃ m, m < n ∧ I m e' h') e h) {n : Nat} {e : Env} {h : Heap} (hi : I n e h) : Wl F L Qta (Quq L K) e h :=
  wloopp (b := QqI L K) I (fun _ _ _ => by kernel_rfl) hr hi
def QoF (L : QL) (K : QK) (a0 : V) (h : Heap) : Prop :=
 (wi F L (.toBytes (.c a0)) E0 h fun v7 h =>
 (wi F L (.len 1 (.c v7)) E0 h fun v9 h =>
 (Wl F L Qta (Quq L K) (upd (upd (upd (upd (upd (upd (upd (Qd [a0]) 2 (.str [])) 6 a0) 7 v7) 3 v7) 8 v7) 9 v9) 10 (.int .i64 0)) h)))
theorem QJD {L : QL} {K : QK} {a0 : V} {h : Heap} (hp : QoF L K a0 h) : Cf F L Qbn [a0] h K :=
  wcallp QGz (of_decide_eq_true (by kernel_rfl)) (p := QoF L K a0 h) (by kernel_rfl) hp
def QpQ (L : QL) (K : QK) (a0 : V) (h : Heap) : Prop :=
 (wi F L (.call QgE [(.c a0), (.c (.str [67, 111, 110, 110, 101, 99, 116, 105, 111, 110]))]) E0 h fun v7 h =>
 (wi F L (.ext 0 (.c v7)) E0 h fun v8 h =>
 (wi F L (.ext 1 (.c v7)) E0 h fun v9 h =>
 (wi F L (.bsl 1 [(.c (.str [67, 111, 110, 110, 101, 99, 116, 105, 111, 110])), (.c (.str [75, 101, 101, 112, 45, 65, 108, 105, 118, 101])), (.c (.str [80, 114, 111, 120, 121, 45, 67, 111, 110, 110, 101, 99, 116, 105, 111, 110])), (.c (.str [84, 69])), (.c (.str [84, 114, 97, 105, 108, 101, 114])), (.c (.str [84, 114, 97, 110, 115, 102, 101, 114, 45, 69, 110, 99, 111, 100, 105, 110, 103])), (.c (.str [85, 112, 103, 114, 97, 100, 101]))]) E0 h fun v11 h =>
 (wi F L (.app 1 16 false (.c v8) (.c v11)) E0 h fun v12 h =>
 (wi F L (.call QdN [(.c a0), (.c v12)]) E0 h fun v15 h =>
 (∃ v, some v15 = some v ∧ K v h)))))))
theorem Qyx {L : QL} {K : QK} {a0 : V} {h : Heap} (hp : QpQ L K a0 h) : Cf F L QgD [a0] h K :=
  wcallp QzC (of_decide_eq_true (by kernel_rfl)) (p := QpQ L K a0 h) (by kernel_rfl) hp
def Qmr (L : QL) (K : QK) (h : Heap) : Prop :=
 (wi F L (.boxz [(.str []), (.str []), (.str []), (.str []), (.str [])]) E0 h fun v0 h =>
 (wi F L (.build [(.str []), (.str []), (.str []), (.str []), (.str [])] [(0, 1, (.c (.str [67, 111, 110, 116, 101, 110, 116, 45, 76, 101, 110, 103, 116, 104]))), (1, 1, (.c (.str [67, 111, 110, 116, 101, 110, 116, 45, 69, 110, 99, 111, 100, 105, 110, 103]))), (2, 1, (.c (.str [67, 111, 110, 116, 101, 110, 116, 45, 82, 97, 110, 103, 101]))), (3, 1, (.c (.str [67, 111, 110, 116, 101, 110, 116, 45, 84, 121, 112, 101]))), (4, 1, (.c (.str [84, 114, 97, 110, 115, 102, 101, 114, 45, 69, 110, 99, 111, 100, 105, 110, 103])))]) E0 h fun v1 h =>
 (wi F L (.store 5 (.c v0) (.c v1)) E0 h fun _ h =>
 (∃ v, Qa h (Qd [v0]) [.cell 0 true 5] = some v ∧ K v h))))
theorem QxO {L : QL} {K : QK} {h : Heap} (hp : Qmr L K  h) : Cf F L Qfw [] h K :=
  wcallp QyQ (of_decide_eq_true (by kernel_rfl)) (p := Qmr L K  h) (by kernel_rfl) hp
def QoL (L : QL) (K : QK) (a0 a1 : V) (h : Heap) : Prop :=
 (wi F L (.bsl 1 [(.c a1)]) E0 h fun v7 h =>
 (wi F L (.call QdN [(.c a0), (.c v7)]) E0 h fun v8 h =>
 (∃ v, some v8 = some v ∧ K v h)))
theorem QHU {L : QL} {K : QK} {a0 a1 : V} {h : Heap} (hp : QoL L K a0 a1 h) : Cf F L Qew [a0, a1] h K :=
  wcallp QIA (of_decide_eq_true (by kernel_rfl)) (p := QoL L K a0 a1 h) (by kernel_rfl) hp
def QnM (L : QL) (K : QK) (a0 a1 : V) (h : Heap) : Prop :=
 (wi F L (.box (.c a1)) E0 h fun v3 h =>
 (wi F L (.mkfn Qgd [(.c v3)]) E0 h fun v6 h =>
 (wi F L (.call Qg2 [(.c a0), (.c v6)]) E0 h fun v7 h =>
 (∃ v, some v7 = some v ∧ K v h))))
theorem QI0 {L : QL} {K : QK} {a0 a1 : V} {h : Heap} (hp : QnM L K a0 a1 h) : Cf F L QcU [a0, a1] h K :=
  wcallp QJ4 (of_decide_eq_true (by kernel_rfl)) (p := QnM L K a0 a1 h) (by kernel_rfl) hp
def QsB (L : QL) (K : QK) (v2 v7 v34 : V) (h : Heap) : Prop :=
 (wi F L (.ext 0 (.c v34)) E0 h fun v35 h =>
 (wi F L (.ext 1 (.c v34)) E0 h fun v36 h =>
 (wg v36 true (wi F L (.mv (.c v35)) E0 h) h fun v39 h =>
 (wg v36 true (wi F L (.call Qfd [(.c v39), (.c (.str [110, 111, 45, 99, 97, 99, 104, 101]))]) E0 h) h fun v40 h =>
 (wi F L (.pick (.c v36) (.c v40) (.c (.bool false))) E0 h fun v41 h =>
 (wi F L (.faddr 1 (.c v7)) E0 h fun v42 h =>
 (wi F L (.store 1 (.c v42) (.c v41)) E0 h fun _ h =>
 (wi F L (.load true 13 (.c v7)) E0 h fun v43 h =>
 (wi F L (.store 13 (.c v2) (.c v43)) E0 h fun _ h =>
 (∃ v, Qa h (Qd [v2]) [.cell 0 true 13] = some v ∧ K v h))))))))))
def Qv2 (L : QL) (K : QK) (v0 v2 v25 : V) (h : Heap) : Prop :=
 (wi F L (.boxz [(.bool false), (.bool false), (.bool false), (.bool false), (.bool false), (.bool false), (.bool false), (.int .i64 0), (.int .i64 0), (.int .i64 0), (.int .i64 0), (.int .i64 0), (.int .i64 0)]) E0 h fun v7 h =>
 (wi F L (.store 13 (.c v7) (.c v25)) E0 h fun _ h =>
 (wi F L (.call Qb9 [(.c v0), (.c (.str [80, 114, 97, 103, 109, 97]))]) E0 h fun v28 h =>
 (wi F L (.ext 0 (.c v28)) E0 h fun v29 h =>
 (wi F L (.ext 1 (.c v28)) E0 h fun v30 h =>
 (wi F L (.call Qbn [(.c v29)]) E0 h fun v33 h =>
 (wi F L (.call Qc0 [(.c v33)]) E0 h fun v34 h =>
 (QsB L K v2 v7 v34 h))))))))
def QsA (L : QL) (K : QK) (v0 v2 : V) (h : Heap) : Prop :=
 (wi F L (.call QeN []) E0 h fun v25 h =>
 (Qv2 L K v0 v2 v25 h))
def QrR (L : QL) (K : QK) (v2 v21 : V) (h : Heap) : Prop :=
 (wi F L (.ext 0 (.c v21)) E0 h fun v22 h =>
 (wi F L (.ext 1 (.c v21)) E0 h fun v23 h =>
 (wi F L (.boxz [(.bool false), (.bool false), (.bool false), (.bool false), (.bool false), (.bool false), (.bool false), (.int .i64 0), (.int .i64 0), (.int .i64 0), (.int .i64 0), (.int .i64 0), (.int .i64 0)]) E0 h fun v5 h =>
 (wi F L (.store 13 (.c v5) (.c v22)) E0 h fun _ h =>
 (wi F L (.load true 13 (.c v5)) E0 h fun v24 h =>
 (wi F L (.store 13 (.c v2) (.c v24)) E0 h fun _ h =>
 (∃ v, Qa h (Qd [v2]) [.cell 0 true 13] = some v ∧ K v h)))))))
def QmB (L : QL) (K : QK) (a0 : V) (h : Heap) : Prop :=
 (wi F L (.boxz [(.bool false), (.bool false), (.bool false), (.bool false), (.bool false), (.bool false), (.bool false), (.int .i64 0), (.int .i64 0), (.int .i64 0), (.int .i64 0), (.int .i64 0), (.int .i64 0)]) E0 h fun v2 h =>
 (wi F L (.call Qb9 [(.c a0), (.c (.str [67, 97, 99, 104, 101, 45, 67, 111, 110, 116, 114, 111, 108]))]) E0 h fun v14 h =>
 (wi F L (.ext 0 (.c v14)) E0 h fun v15 h =>
 (wi F L (.ext 1 (.c v14)) E0 h fun v16 h =>
 (wi F L (.bin .gtr (.c v16) (.c (.int .i64 0))) E0 h fun v18 h =>
 (wb v18
 (wi F L (.call Qf7 [(.c v15)]) E0 h fun v21 h =>
 (QrR L K v2 v21 h))
 (QsA L K a0 v2 h)))))))
theorem QHK {L : QL} {K : QK} {a0 : V} {h : Heap} (hp : QmB L K a0 h) : Cf F L Qej [a0] h K :=
  wcallp QxE (of_decide_eq_true (by kernel_rfl)) (p := QmB L K a0 h) (by kernel_rfl) hp
def Qij (L : QL) (K : QK) (h : Heap) : Prop :=
 (∃ v, some (.int .i64 (-1)) = some v ∧ K v h)
def QqF (L : QL) (K : QK) (a0 a1 : V) (h : Heap) : Prop :=
 (wi F L (.faddr 3 (.c a1)) E0 h fun v5 h =>
 (wi F L (.load false 1 (.c v5)) E0 h fun v6 h =>
 (wi F L (.call QeM [(.c v6), (.c a0)]) E0 h fun v8 h =>
 (wi F L (.boxz [(.int .i64 0), (.bool false), (.bool false)]) E0 h fun v4 h =>
 (wi F L (.store 3 (.c v4) (.c v8)) E0 h fun _ h =>
 (wi F L (.faddr 2 (.c v4)) E0 h fun v9 h =>
 (wi F L (.load false 1 (.c v9)) E0 h fun v10 h =>
 (wb v10
 (wi F L (.faddr 0 (.c v4)) E0 h fun v11 h =>
 (wi F L (.load false 1 (.c v11)) E0 h fun v12 h =>
 (∃ v, some v12 = some v ∧ K v h)))
 (Qij L K  h)))))))))
theorem QDf {L : QL} {K : QK} {a0 a1 : V} {h : Heap} (hp : QqF L K a0 a1 h) : Cf F L Qd3 [a0, a1] h K :=
  wcallp QFZ (of_decide_eq_true (by kernel_rfl)) (p := QqF L K a0 a1 h) (by kernel_rfl) hp
def Qhw (L : QL) (K : QK) (v4 v6 v7 v8 : V) (h : Heap) : Prop :=
 (wg v8 true (wi F L (.mv (.c v6)) E0 h) h fun v26 h =>
 (wg v8 true (wi F L (.bin .eql (.c v26) (.c (.int .i64 1))) E0 h) h fun v27 h =>
 (wi F L (.pick (.c v8) (.c v27) (.c (.bool false))) E0 h fun v28 h =>
 (wi F L (.build [(.int .i64 0), (.bool false), (.bool false)] [(0, 1, (.c v7)), (1, 1, (.c (.bool true))), (2, 1, (.c v28))]) E0 h fun v29 h =>
 (wi F L (.store 3 (.c v4) (.c v29)) E0 h fun _ h =>
 (∃ v, Qa h (Qd [v4]) [.cell 0 true 3] = some v ∧ K v h))))))
def QoB (L : QL) (K : QK) (a0 a1 : V) (h : Heap) : Prop :=
 (wi F L (.boxz [(.int .i64 0), (.bool false), (.bool false)]) E0 h fun v4 h =>
 (wi F L (.call Qb9 [(.c a0), (.c a1)]) E0 h fun v12 h =>
 (wi F L (.ext 0 (.c v12)) E0 h fun v13 h =>
 (wi F L (.ext 1 (.c v12)) E0 h fun v14 h =>
 (wi F L (.call Qfl [(.c v13)]) E0 h fun v17 h =>
 (wi F L (.ext 0 (.c v17)) E0 h fun v18 h =>
 (wi F L (.ext 1 (.c v17)) E0 h fun v19 h =>
 (wi F L (.bin .eql (.c v14) (.c (.int .i64 0))) E0 h fun v21 h =>
 (wb v21
 (wi F L (.build [(.int .i64 0), (.bool false), (.bool false)] []) E0 h fun v22 h =>
 (wi F L (.store 3 (.c v4) (.c v22)) E0 h fun _ h =>
 (∃ v, Qa h (Qd [v4]) [.cell 0 true 3] = some v ∧ K v h)))
 (Qhw L K v4 v14 v18 v19 h))))))))))
theorem QEd {L : QL} {K : QK} {a0 a1 : V} {h : Heap} (hp : QoB L K a0 a1 h) : Cf F L QeM [a0, a1] h K :=
  wcallp Qys (of_decide_eq_true (by kernel_rfl)) (p := QoB L K a0 a1 h) (by kernel_rfl) hp
def Qee (L : QL) (K : QK) (v6 : V) (h : Heap) : Prop :=
 (wi F L (.call Qqg [(.c v6), (.c (.str [44, 32]))]) E0 h fun v26 h =>
 (wi F L (.len 1 (.c v6)) E0 h fun v28 h =>
 (∃ v, Qa h (Qd [v26, v28]) [.tmp 0, .tmp 1] = some v ∧ K v h)))
def Qeg (L : QL) (K : QK) (N0 : QN) (e : Env) (v11 : V) (h : Heap) : Prop :=
 (wi F L (.bin .add (.c v11) (.c (.int .i64 1))) E0 h fun v24 h =>
 (N0 (upd (upd e 24 v24) 11 v24) h))
def Qfb (L : QL) (K : QK) (N0 : QN) (e : Env) (v1 v6 v9 v11 : V) (h : Heap) : Prop :=
 (wi F L (.ixaSl 2 (.c v9) (.c v11)) E0 h fun v13 h =>
 (wi F L (.load true 2 (.c v13)) E0 h fun v14 h =>
 (wi F L (.boxz [(.str []), (.str [])]) E0 h fun v8 h =>
 (wi F L (.store 2 (.c v8) (.c v14)) E0 h fun _ h =>
 (wi F L (.faddr 0 (.c v8)) E0 h fun v15 h =>
 (wi F L (.load false 1 (.c v15)) E0 h fun v16 h =>
 (wi F L (.call QdC [(.c v16), (.c v1)]) E0 h fun v18 h =>
 (wb v18
 (wi F L (.faddr 1 (.c v8)) E0 h fun v20 h =>
 (wi F L (.load false 1 (.c v20)) E0 h fun v21 h =>
 (wi F L (.bsl 1 [(.c v21)]) E0 h fun v22 h =>
 (wi F L (.app 1 16 false (.c v6) (.c v22)) E0 h fun v23 h =>
 (Qeg L K N0 (upd (upd (upd (upd (upd (upd (upd (upd (upd (upd (upd (upd (upd e 13 v13) 14 v14) 8 v8) 15 v15) 16 v16) 17 v1) 18 v18) 19 v6) 20 v20) 21 v21) 22 v22) 23 v23) 6 v23) v11 h)))))
 (Qeg L K N0 (upd (upd (upd (upd (upd (upd (upd e 13 v13) 14 v14) 8 v8) 15 v15) 16 v16) 17 v1) 18 v18) v11 h)))))))))
def Qrk (L : QL) (K : QK) : X → Env → Heap → Prop := (fun x => (seqX (fun e h => Qee L K (e 6) h) (Qy Qjt.results K)) (X.out 0 x))
def Qst : C :=
 (.seq (.region [⟨(some 12), none, .bin .lss (.t 11) (.t 10)⟩])
 (.seq (.cond (.t 12)
 .skip
 (.exit 0))
 (.seq (.block 1 (.seq (.region [⟨(some 13), none, .ixaSl 2 (.t 9) (.t 11)⟩, ⟨(some 14), none, .load true 2 (.t 13)⟩, ⟨(some 8), none, .boxz [(.str []), (.str [])]⟩, ⟨none, none, .store 2 (.t 8) (.t 14)⟩])
 (.seq (.region [⟨(some 15), none, .faddr 0 (.t 8)⟩, ⟨(some 16), none, .load false 1 (.t 15)⟩, ⟨(some 17), none, .mv (.t 1)⟩, ⟨(some 18), none, .call QdC [(.t 16), (.t 17)]⟩])
 (.cond (.t 18)
 (.region [⟨(some 19), none, .mv (.t 6)⟩, ⟨(some 20), none, .faddr 1 (.t 8)⟩, ⟨(some 21), none, .load false 1 (.t 20)⟩, ⟨(some 22), none, .bsl 1 [(.t 21)]⟩, ⟨(some 23), none, .app 1 16 false (.t 19) (.t 22)⟩, ⟨(some 6), none, .mv (.t 23)⟩])
 .skip))))
 (.region [⟨(some 24), none, .bin .add (.t 11) (.c (.int .i64 1))⟩, ⟨(some 11), none, .mv (.t 24)⟩]))))
def Qps (L : QL) (K : QK) (N0 : QN) (e : Env) (h : Heap) : Prop :=
 (wi F L (.bin .lss (.c (e 11)) (.c (e 10))) E0 h fun v12 h =>
 (wb v12
 (Qfb L K N0 (upd e 12 v12) (e 1) (e 6) (e 9) (e 11) h)
 (Qee L K (e 6) h)))
theorem QH6 {L : QL} {K : QK} (I : Nat → Env → Heap → Prop) (hr : ∀ n e h, I n e h → Qps L K (fun e' h' => ∃ m, m < n ∧ I m e' h') e h) {n : Nat} {e : Env} {h : Heap} (hi : I n e h) : Wl F L Qst (Qrk L K) e h :=
  wloopp (b := Qps L K) I (fun _ _ _ => by kernel_rfl) hr hi
def Qqb (L : QL) (K : QK) (a0 a1 : V) (h : Heap) : Prop :=
 (wi F L (.len 1 (.c a0)) E0 h fun v10 h =>
 (Wl F L Qst (Qrk L K) (upd (upd (upd (upd (upd (upd (Qd [a0, a1]) 4 (.str [])) 5 (.int .i64 0)) 6 .nsl) 9 a0) 10 v10) 11 (.int .i64 0)) h))
theorem QJF {L : QL} {K : QK} {a0 a1 : V} {h : Heap} (hp : Qqb L K a0 a1 h) : Cf F L Qb9 [a0, a1] h K :=
  wcallp QHN (of_decide_eq_true (by kernel_rfl)) (p := Qqb L K a0 a1 h) (by kernel_rfl) hp
def QcS (L : QL) (K : QK) (v1 v4 v6 : V) (h : Heap) : Prop :=
 (wi F L (.load false 1 (.c v1)) E0 h fun v45 h =>
 (wi F L (.len 0 (.c v45)) E0 h fun v46 h =>
 (wi F L (.callv (.c v6) [(.c v46)]) E0 h fun v47 h =>
 (wi F L (.load false 1 (.c v4)) E0 h fun v48 h =>
 (wi F L (.load false 1 (.c v4)) E0 h fun v49 h =>
 (wi F L (.len 1 (.c v49)) E0 h fun v50 h =>
 (wi F L (.load false 1 (.c v4)) E0 h fun v51 h =>
 (wi F L (.len 1 (.c v51)) E0 h fun v52 h =>
 (wi F L (.slsl 1 (.c v48) none (some (.c v50)) (some (.c v52))) E0 h fun v53 h =>
 (∃ v, Qa h (Qd [v53, (.bool true)]) [.tmp 0, .tmp 1] = some v ∧ K v h))))))))))
def Qcl (L : QL) (K : QK) (v1 v4 v6 v7 : V) (h : Heap) : Prop :=
 (wb v7
 (∃ v, Qa h (Qd [.nsl, (.bool false)]) [.tmp 0, .tmp 1] = some v ∧ K v h)
 (QcS L K v1 v4 v6 h))
def QbA (L : QL) (K : QK) (N0 : QN) (e : Env) (v8 : V) (h : Heap) : Prop :=
 (wi F L (.bin .add (.c v8) (.c (.int .i64 1))) E0 h fun v16 h =>
 (N0 (upd (upd (upd e 15 v8) 16 v16) 8 v16) h))
def QcJ (L : QL) (K : QK) (N0 : QN) (e : Env) (v1 v6 v7 v8 : V) (h : Heap) : Prop :=
 (wi F L (.load false 1 (.c v1)) E0 h fun v17 h =>
 (wi F L (.ixStr (.c v17) (.c v8)) E0 h fun v19 h =>
 (wi F L (.bin .eql (.c v19) (.c (.int .u8 34))) E0 h fun v22 h =>
 (wb v22
 (wi F L (.un .not (.c v7)) E0 h fun v24 h =>
 (QbA L K N0 (upd (upd (upd (upd (upd (upd (upd (upd (upd (upd e 17 v17) 18 v8) 19 v19) 9 v19) 21 v19) 22 v22) 20 v22) 23 v7) 24 v24) 7 v24) v8 h))
 (wg v7 true (wi F L (.mv (.c v19)) E0 h) h fun v28 h =>
 (wg v7 true (wi F L (.bin .eql (.c v28) (.c (.int .u8 92))) E0 h) h fun v29 h =>
 (wi F L (.pick (.c v7) (.c v29) (.c (.bool false))) E0 h fun v30 h =>
 (wb v30
 (wi F L (.bin .add (.c v8) (.c (.int .i64 1))) E0 h fun v32 h =>
 (QbA L K N0 (upd (upd (upd (upd (upd (upd (upd (upd (upd (upd (upd (upd (upd (upd (upd (upd e 17 v17) 18 v8) 19 v19) 9 v19) 21 v19) 22 v22) 20 v22) 26 v7) 27 v7) 28 v28) 29 v29) 30 v30) 25 v30) 31 v8) 32 v32) 8 v32) v32 h))
 (wi F L (.un .not (.c v7)) E0 h fun v35 h =>
 (wg v35 true (wi F L (.mv (.c v19)) E0 h) h fun v37 h =>
 (wg v35 true (wi F L (.bin .eql (.c v37) (.c (.int .u8 44))) E0 h) h fun v38 h =>
 (wi F L (.pick (.c v35) (.c v38) (.c (.bool false))) E0 h fun v39 h =>
 (wb v39
 (wi F L (.callv (.c v6) [(.c v8)]) E0 h fun v42 h =>
 (QbA L K N0 (upd (upd (upd (upd (upd (upd (upd (upd (upd (upd (upd (upd (upd (upd (upd (upd (upd (upd (upd (upd (upd (upd (upd e 17 v17) 18 v8) 19 v19) 9 v19) 21 v19) 22 v22) 20 v22) 26 v7) 27 v7) 28 v28) 29 v29) 30 v30) 25 v30) 34 v7) 35 v35) 36 v35) 37 v37) 38 v38) 39 v39) 33 v39) 40 v6) 41 v8) 42 v42) v8 h))
 (QbA L K N0 (upd (upd (upd (upd (upd (upd (upd (upd (upd (upd (upd (upd (upd (upd (upd (upd (upd (upd (upd (upd e 17 v17) 18 v8) 19 v19) 9 v19) 21 v19) 22 v22) 20 v22) 26 v7) 27 v7) 28 v28) 29 v29) 30 v30) 25 v30) 34 v7) 35 v35) 36 v35) 37 v37) 38 v38) 39 v39) 33 v39) v8 h))))))))))))))
def QuX (L : QL) (K : QK) : X → Env → Heap → Prop := (fun x => (seqX (fun e h => Qcl L K (e 1) (e 4) (e 6) (e 7) h) (Qy QjB.results K)) (X.out 0 x))
def QvE : C :=
 (.seq (.seq (.region [⟨(some 11), none, .mv (.t 8)⟩, ⟨(some 12), none, .load false 1 (.t 1)⟩, ⟨(some 13), none, .len 0 (.t 12)⟩, ⟨(some 14), none, .bin .lss (.t 11) (.t 13)⟩])
 (.cond (.t 14)
 .skip
 (.exit 0)))
 (.seq (.block 1 (.seq (.region [⟨(some 17), none, .load false 1 (.t 1)⟩, ⟨(some 18), none, .mv (.t 8)⟩, ⟨(some 19), none, .ixStr (.t 17) (.t 18)⟩, ⟨(some 9), none, .mv (.t 19)⟩])
 (.block 2 (.seq (.region [⟨(some 21), none, .mv (.t 9)⟩, ⟨(some 22), none, .bin .eql (.t 21) (.c (.int .u8 34))⟩, ⟨(some 20), none, .mv (.t 22)⟩])
 (.cond (.t 20)
 (.region [⟨(some 23), none, .mv (.t 7)⟩, ⟨(some 24), none, .un .not (.t 23)⟩, ⟨(some 7), none, .mv (.t 24)⟩])
 (.seq (.region [⟨(some 26), none, .mv (.t 7)⟩, ⟨(some 27), none, .mv (.t 26)⟩, ⟨(some 28), (some (27, true)), .mv (.t 9)⟩, ⟨(some 29), (some (27, true)), .bin .eql (.t 28) (.c (.int .u8 92))⟩, ⟨(some 30), none, .pick (.t 27) (.t 29) (.c (.bool false))⟩, ⟨(some 25), none, .mv (.t 30)⟩])
 (.cond (.t 25)
 (.region [⟨(some 31), none, .mv (.t 8)⟩, ⟨(some 32), none, .bin .add (.t 31) (.c (.int .i64 1))⟩, ⟨(some 8), none, .mv (.t 32)⟩])
 (.seq (.region [⟨(some 34), none, .mv (.t 7)⟩, ⟨(some 35), none, .un .not (.t 34)⟩, ⟨(some 36), none, .mv (.t 35)⟩, ⟨(some 37), (some (36, true)), .mv (.t 9)⟩, ⟨(some 38), (some (36, true)), .bin .eql (.t 37) (.c (.int .u8 44))⟩, ⟨(some 39), none, .pick (.t 36) (.t 38) (.c (.bool false))⟩, ⟨(some 33), none, .mv (.t 39)⟩])
 (.cond (.t 33)
 (.region [⟨(some 40), none, .mv (.t 6)⟩, ⟨(some 41), none, .mv (.t 8)⟩, ⟨(some 42), none, .callv (.t 40) [(.t 41)]⟩])
 .skip)))))))))
 (.region [⟨(some 15), none, .mv (.t 8)⟩, ⟨(some 16), none, .bin .add (.t 15) (.c (.int .i64 1))⟩, ⟨(some 8), none, .mv (.t 16)⟩])))
def QlB (L : QL) (K : QK) (N0 : QN) (e : Env) (h : Heap) : Prop :=
 (wi F L (.load false 1 (.c (e 1))) E0 h fun v12 h =>
 (wi F L (.len 0 (.c v12)) E0 h fun v13 h =>
 (wi F L (.bin .lss (.c (e 8)) (.c v13)) E0 h fun v14 h =>
 (wb v14
 (QcJ L K N0 (upd (upd (upd (upd e 11 (e 8)) 12 v12) 13 v13) 14 v14) (e 1) (e 6) (e 7) (e 8) h)
 (Qcl L K (e 1) (e 4) (e 6) (e 7) h)))))
theorem QAf {L : QL} {K : QK} (I : Nat → Env → Heap → Prop) (hr : ∀ n e h, I n e h → QlB L K (fun e' h' => ∃ m, m < n ∧ I m e' h') e h) {n : Nat} {e : Env} {h : Heap} (hi : I n e h) : Wl F L QvE (QuX L K) e h :=
  wloopp (b := QlB L K) I (fun _ _ _ => by kernel_rfl) hr hi
def Qp6 (L : QL) (K : QK) (a0 : V) (h : Heap) : Prop :=
 (wi F L (.box (.c a0)) E0 h fun v1 h =>
 (wi F L (.boxz [.nsl]) E0 h fun v4 h =>
 (wi F L (.boxz [(.int .i64 0)]) E0 h fun v5 h =>
 (wi F L (.store 1 (.c v5) (.c (.int .i64 0))) E0 h fun _ h =>
 (wi F L (.mkfn Qep [(.c v1), (.c v5), (.c v4)]) E0 h fun v10 h =>
 (Wl F L QvE (QuX L K) (upd (upd (upd (upd (upd (upd (upd (upd (upd (Qd [a0]) 1 v1) 2 .nsl) 3 (.bool false)) 4 v4) 5 v5) 10 v10) 6 v10) 7 (.bool false)) 8 (.int .i64 0)) h))))))
theorem QIu {L : QL} {K : QK} {a0 : V} {h : Heap} (hp : Qp6 L K a0 h) : Cf F L Qc0 [a0] h K :=
  wcallp QFk (of_decide_eq_true (by kernel_rfl)) (p := Qp6 L K a0 h) (by kernel_rfl) hp
def QcE (L : QL) (K : QK) (v6 : V) (h : Heap) : Prop :=
 (∃ v, Qa h (Qd [v6, (.bool true)]) [.tmp 0, .tmp 1] = some v ∧ K v h)
def QcX (L : QL) (K : QK) (N0 : QN) (e : Env) (v22 : V) (h : Heap) : Prop :=
 (wi F L (.bin .add (.c v22) (.c (.int .i64 1))) E0 h fun v46 h =>
 (N0 (upd (upd e 46 v46) 22 v46) h))
def QcY (L : QL) (K : QK) (N0 : QN) (e : Env) (v6 v8 v22 : V) (h : Heap) : Prop :=
 (wi F L (.bin .mul (.c (.int .i64 10)) (.c v6)) E0 h fun v43 h =>
 (wi F L (.bin .add (.c v43) (.c v8)) E0 h fun v45 h =>
 (QcX L K N0 (upd (upd (upd (upd (upd e 42 v6) 43 v43) 44 v8) 45 v45) 6 v45) v22 h)))
def Qc7 (L : QL) (K : QK) (N0 : QN) (e : Env) (v0 v1 v6 v22 : V) (h : Heap) : Prop :=
 (wi F L (.ixStr (.c v0) (.c v22)) E0 h fun v27 h =>
 (wi F L (.bin .sub (.c v27) (.c (.int .u8 48))) E0 h fun v28 h =>
 (wi F L (.toInt .i64 (.c v28)) E0 h fun v29 h =>
 (wi F L (.bin .gtr (.c v29) (.c v1)) E0 h fun v32 h =>
 (wg v32 false (wi F L (.mv (.c v6)) E0 h) h fun v34 h =>
 (wg v32 false (wi F L (.mv (.c v1)) E0 h) h fun v35 h =>
 (wg v32 false (wi F L (.mv (.c v29)) E0 h) h fun v36 h =>
 (wg v32 false (wi F L (.bin .sub (.c v35) (.c v36)) E0 h) h fun v37 h =>
 (wg v32 false (wi F L (.bin .quo (.c v37) (.c (.int .i64 10))) E0 h) h fun v38 h =>
 (wg v32 false (wi F L (.bin .gtr (.c v34) (.c v38)) E0 h) h fun v39 h =>
 (wi F L (.pick (.c v32) (.c (.bool true)) (.c v39)) E0 h fun v40 h =>
 (wb v40
 (∃ v, Qa h (Qd [v1, (.bool true)]) [.tmp 0, .tmp 1] = some v ∧ K v h)
 (QcY L K N0 (upd (upd (upd (upd (upd (upd (upd (upd (upd (upd (upd (upd (upd (upd (upd (upd (upd (upd (upd e 24 v22) 7 v22) 25 v0) 26 v22) 27 v27) 28 v28) 29 v29) 8 v29) 30 v29) 31 v1) 32 v32) 33 v32) 34 v34) 35 v35) 36 v36) 37 v37) 38 v38) 39 v39) 40 v40) v6 v29 v22 h)))))))))))))
def QvM (L : QL) (K : QK) : X → Env → Heap → Prop := (fun x => (seqX (fun e h => QcE L K (e 6) h) (Qy QiT.results K)) (X.out 0 x))
def QtL : C :=
 (.seq (.region [⟨(some 23), none, .bin .lss (.t 22) (.t 21)⟩])
 (.seq (.cond (.t 23)
 .skip
 (.exit 0))
 (.seq (.block 1 (.seq (.region [⟨(some 24), none, .mv (.t 22)⟩, ⟨(some 7), none, .mv (.t 24)⟩])
 (.seq (.region [⟨(some 25), none, .mv (.t 0)⟩, ⟨(some 26), none, .mv (.t 7)⟩, ⟨(some 27), none, .ixStr (.t 25) (.t 26)⟩, ⟨(some 28), none, .bin .sub (.t 27) (.c (.int .u8 48))⟩, ⟨(some 29), none, .toInt .i64 (.t 28)⟩, ⟨(some 8), none, .mv (.t 29)⟩])
 (.seq (.seq (.region [⟨(some 30), none, .mv (.t 8)⟩, ⟨(some 31), none, .mv (.t 1)⟩, ⟨(some 32), none, .bin .gtr (.t 30) (.t 31)⟩, ⟨(some 33), none, .mv (.t 32)⟩, ⟨(some 34), (some (33, false)), .mv (.t 6)⟩, ⟨(some 35), (some (33, false)), .mv (.t 1)⟩, ⟨(some 36), (some (33, false)), .mv (.t 8)⟩, ⟨(some 37), (some (33, false)), .bin .sub (.t 35) (.t 36)⟩, ⟨(some 38), (some (33, false)), .bin .quo (.t 37) (.c (.int .i64 10))⟩, ⟨(some 39), (some (33, false)), .bin .gtr (.t 34) (.t 38)⟩, ⟨(some 40), none, .pick (.t 33) (.c (.bool true)) (.t 39)⟩])
 (.cond (.t 40)
 (.seq (.region [⟨(some 41), none, .mv (.t 1)⟩, ⟨(some 4), none, .mv (.t 41)⟩, ⟨(some 5), none, .mv (.c (.bool true))⟩])
 .ret)
 .skip))
 (.region [⟨(some 42), none, .mv (.t 6)⟩, ⟨(some 43), none, .bin .mul (.c (.int .i64 10)) (.t 42)⟩, ⟨(some 44), none, .mv (.t 8)⟩, ⟨(some 45), none, .bin .add (.t 43) (.t 44)⟩, ⟨(some 6), none, .mv (.t 45)⟩])))))
 (.region [⟨(some 46), none, .bin .add (.t 22) (.c (.int .i64 1))⟩, ⟨(some 22), none, .mv (.t 46)⟩]))))
def Qk9 (L : QL) (K : QK) (N0 : QN) (e : Env) (h : Heap) : Prop :=
 (wi F L (.bin .lss (.c (e 22)) (.c (e 21))) E0 h fun v23 h =>
 (wb v23
 (Qc7 L K N0 (upd e 23 v23) (e 0) (e 1) (e 6) (e 22) h)
 (QcE L K (e 6) h)))
theorem QFJ {L : QL} {K : QK} (I : Nat → Env → Heap → Prop) (hr : ∀ n e h, I n e h → Qk9 L K (fun e' h' => ∃ m, m < n ∧ I m e' h') e h) {n : Nat} {e : Env} {h : Heap} (hi : I n e h) : Wl F L QtL (QvM L K) e h :=
  wloopp (b := Qk9 L K) I (fun _ _ _ => by kernel_rfl) hr hi
def Qc2 (L : QL) (K : QK) (e : Env) (v0 : V) (h : Heap) : Prop :=
 (wi F L (.len 0 (.c v0)) E0 h fun v21 h =>
 (Wl F L QtL (QvM L K) (upd (upd (upd (upd e 6 (.int .i64 0)) 20 v0) 21 v21) 22 (.int .i64 0)) h))
def Qos (L : QL) (K : QK) (a0 a1 : V) (h : Heap) : Prop :=
 (wi F L (.bin .eql (.c a0) (.c (.str []))) E0 h fun v10 h =>
 (wg v10 false (wi F L (.mv (.c a1)) E0 h) h fun v12 h =>
 (wg v10 false (wi F L (.bin .lss (.c v12) (.c (.int .i64 0))) E0 h) h fun v13 h =>
 (wi F L (.pick (.c v10) (.c (.bool true)) (.c v13)) E0 h fun v14 h =>
 (wg v14 false (wi F L (.mv (.c a0)) E0 h) h fun v16 h =>
 (wg v14 false (wi F L (.call Qem [(.c v16), (.c (.fn Qgv []))]) E0 h) h fun v17 h =>
 (wg v14 false (wi F L (.un .not (.c v17)) E0 h) h fun v18 h =>
 (wi F L (.pick (.c v14) (.c (.bool true)) (.c v18)) E0 h fun v19 h =>
 (wb v19
 (∃ v, Qa h (Qd [(.int .i64 0), (.bool false)]) [.tmp 0, .tmp 1] = some v ∧ K v h)
 (Qc2 L K (upd (upd (upd (upd (upd (upd (upd (upd (upd (upd (upd (upd (upd (Qd [a0, a1]) 4 (.int .i64 0)) 5 (.bool false)) 9 a0) 10 v10) 11 v10) 12 v12) 13 v13) 14 v14) 15 v14) 16 v16) 17 v17) 18 v18) 19 v19) a0 h))))))))))
theorem QAX {L : QL} {K : QK} {a0 a1 : V} {h : Heap} (hp : Qos L K a0 a1 h) : Cf F L Qeu [a0, a1] h K :=
  wcallp QBM (of_decide_eq_true (by kernel_rfl)) (p := Qos L K a0 a1 h) (by kernel_rfl) hp
def Qp7 (L : QL) (K : QK) (v2 v7 : V) (h : Heap) : Prop :=
 (wi F L (.load true 13 (.c v7)) E0 h fun v51 h =>
 (wi F L (.store 13 (.c v2) (.c v51)) E0 h fun _ h =>
 (∃ v, Qa h (Qd [v2]) [.cell 0 true 13] = some v ∧ K v h)))
def QjP (L : QL) (K : QK) (N0 : QN) (e : Env) (v10 : V) (h : Heap) : Prop :=
 (wi F L (.bin .add (.c v10) (.c (.int .i64 1))) E0 h fun v41 h =>
 (N0 (upd (upd (upd e 40 v10) 41 v41) 10 v41) h))
def QrZ (L : QL) (K : QK) (N0 : QN) (e : Env) (v7 v8 v9 v10 : V) (h : Heap) : Prop :=
 (wg v9 true (wi F L (.mv (.c v8)) E0 h) h fun v44 h =>
 (wg v9 true (wi F L (.mv (.c v10)) E0 h) h fun v45 h =>
 (wg v9 true (wi F L (.ixaSl 1 (.c v44) (.c v45)) E0 h) h fun v46 h =>
 (wg v9 true (wi F L (.load false 1 (.c v46)) E0 h) h fun v47 h =>
 (wg v9 true (wi F L (.bin .eql (.c v47) (.c (.str [110, 111, 45, 99, 97, 99, 104, 101]))) E0 h) h fun v48 h =>
 (wi F L (.pick (.c v9) (.c v48) (.c (.bool false))) E0 h fun v49 h =>
 (wb v49
 (wi F L (.faddr 1 (.c v7)) E0 h fun v50 h =>
 (wi F L (.store 1 (.c v50) (.c (.bool true))) E0 h fun _ h =>
 (QjP L K N0 (upd (upd (upd (upd (upd (upd (upd (upd (upd e 42 v9) 43 v9) 44 v44) 45 v45) 46 v46) 47 v47) 48 v48) 49 v49) 50 v50) v10 h)))
 (QjP L K N0 (upd (upd (upd (upd (upd (upd (upd (upd e 42 v9) 43 v9) 44 v44) 45 v45) 46 v46) 47 v47) 48 v48) 49 v49) v10 h))))))))
def Qqz (L : QL) (K : QK) : X → Env → Heap → Prop := (fun x => (seqX (fun e h => Qp7 L K (e 2) (e 7) h) (Qy Qj4.results K)) (X.out 0 x))
def Qo4 : C :=
 (.seq (.seq (.region [⟨(some 36), none, .mv (.t 10)⟩, ⟨(some 37), none, .mv (.t 8)⟩, ⟨(some 38), none, .len 1 (.t 37)⟩, ⟨(some 39), none, .bin .lss (.t 36) (.t 38)⟩])
 (.cond (.t 39)
 .skip
 (.exit 0)))
 (.seq (.block 1 (.seq (.region [⟨(some 42), none, .mv (.t 9)⟩, ⟨(some 43), none, .mv (.t 42)⟩, ⟨(some 44), (some (43, true)), .mv (.t 8)⟩, ⟨(some 45), (some (43, true)), .mv (.t 10)⟩, ⟨(some 46), (some (43, true)), .ixaSl 1 (.t 44) (.t 45)⟩, ⟨(some 47), (some (43, true)), .load false 1 (.t 46)⟩, ⟨(some 48), (some (43, true)), .bin .eql (.t 47) (.c (.str [110, 111, 45, 99, 97, 99, 104, 101]))⟩, ⟨(some 49), none, .pick (.t 43) (.t 48) (.c (.bool false))⟩])
 (.cond (.t 49)
 (.region [⟨(some 50), none, .faddr 1 (.t 7)⟩, ⟨none, none, .store 1 (.t 50) (.c (.bool true))⟩])
 .skip)))
 (.region [⟨(some 40), none, .mv (.t 10)⟩, ⟨(some 41), none, .bin .add (.t 40) (.c (.int .i64 1))⟩, ⟨(some 10), none, .mv (.t 41)⟩])))
def Qp9 (L : QL) (K : QK) (N0 : QN) (e : Env) (h : Heap) : Prop :=
 (wi F L (.len 1 (.c (e 8))) E0 h fun v38 h =>
 (wi F L (.bin .lss (.c (e 10)) (.c v38)) E0 h fun v39 h =>
 (wb v39
 (QrZ L K N0 (upd (upd (upd (upd e 36 (e 10)) 37 (e 8)) 38 v38) 39 v39) (e 7) (e 8) (e 9) (e 10) h)
 (Qp7 L K (e 2) (e 7) h))))
theorem QAM {L : QL} {K : QK} (I : Nat → Env → Heap → Prop) (hr : ∀ n e h, I n e h → Qp9 L K (fun e' h' => ∃ m, m < n ∧ I m e' h') e h) {n : Nat} {e : Env} {h : Heap} (hi : I n e h) : Wl F L Qo4 (Qqz L K) e h :=
  wloopp (b := Qp9 L K) I (fun _ _ _ => by kernel_rfl) hr hi
def QtP (L : QL) (K : QK) (e : Env) (v0 v7 v24 v27 v28 v29 v32 : V) (h : Heap) : Prop :=
 (wi F L (.call Qc4 [(.c v32)]) E0 h fun v33 h =>
 (wi F L (.ext 0 (.c v33)) E0 h fun v34 h =>
 (wi F L (.ext 1 (.c v33)) E0 h fun v35 h =>
 (Wl F L Qo4 (Qqz L K) (upd (upd (upd (upd (upd (upd (upd (upd (upd (upd (upd (upd (upd (upd (upd (upd (upd e 24 v24) 7 v7) 26 v0) 27 v27) 25 v27) 28 v28) 29 v29) 3 v28) 31 v28) 32 v32) 33 v33) 30 v33) 34 v34) 35 v35) 8 v34) 9 v35) 10 (.int .i64 0)) h))))
def QvR (L : QL) (K : QK) (e : Env) (v0 v24 : V) (h : Heap) : Prop :=
 (wi F L (.boxz [(.bool false), (.bool false), (.bool false), (.bool false), (.bool false), (.bool false), (.bool false), (.int .i64 0), (.int .i64 0), (.int .i64 0), (.int .i64 0), (.int .i64 0), (.int .i64 0)]) E0 h fun v7 h =>
 (wi F L (.store 13 (.c v7) (.c v24)) E0 h fun _ h =>
 (wi F L (.call QbU [(.c v0), (.c (.str [112, 114, 97, 103, 109, 97]))]) E0 h fun v27 h =>
 (wi F L (.ext 0 (.c v27)) E0 h fun v28 h =>
 (wi F L (.ext 1 (.c v27)) E0 h fun v29 h =>
 (wi F L (.call Qb4 [(.c v28)]) E0 h fun v32 h =>
 (QtP L K e v0 v7 v24 v27 v28 v29 v32 h)))))))
def QrN (L : QL) (K : QK) (e : Env) (v0 : V) (h : Heap) : Prop :=
 (wi F L (.call Qen []) E0 h fun v24 h =>
 (QvR L K e v0 v24 h))
def QvB (L : QL) (K : QK) (v2 v20 : V) (h : Heap) : Prop :=
 (wi F L (.ext 0 (.c v20)) E0 h fun v21 h =>
 (wi F L (.ext 1 (.c v20)) E0 h fun v22 h =>
 (wi F L (.boxz [(.bool false), (.bool false), (.bool false), (.bool false), (.bool false), (.bool false), (.bool false), (.int .i64 0), (.int .i64 0), (.int .i64 0), (.int .i64 0), (.int .i64 0), (.int .i64 0)]) E0 h fun v5 h =>
 (wi F L (.store 13 (.c v5) (.c v21)) E0 h fun _ h =>
 (wi F L (.load true 13 (.c v5)) E0 h fun v23 h =>
 (wi F L (.store 13 (.c v2) (.c v23)) E0 h fun _ h =>
 (∃ v, Qa h (Qd [v2]) [.cell 0 true 13] = some v ∧ K v h)))))))
def Qsy (L : QL) (K : QK) (a0 v2 v13 : V) (h : Heap) : Prop :=
 (wi F L (.ext 0 (.c v13)) E0 h fun v14 h =>
 (wi F L (.ext 1 (.c v13)) E0 h fun v15 h =>
 (wi F L (.bin .gtr (.c v15) (.c (.int .i64 0))) E0 h fun v17 h =>
 (wb v17
 (wi F L (.call Qfr [(.c v14)]) E0 h fun v20 h =>
 (QvB L K v2 v20 h))
 (QrN L K (upd (upd (upd (upd (upd (upd (upd (upd (upd (upd (Qd [a0]) 2 v2) 12 a0) 13 v13) 11 v13) 14 v14) 15 v15) 3 v14) 4 v15) 16 v15) 17 v17) a0 h)))))
def Qph (L : QL) (K : QK) (a0 : V) (h : Heap) : Prop :=
 (wi F L (.boxz [(.bool false), (.bool false), (.bool false), (.bool false), (.bool false), (.bool false), (.bool false), (.int .i64 0), (.int .i64 0), (.int .i64 0), (.int .i64 0), (.int .i64 0), (.int .i64 0)]) E0 h fun v2 h =>
 (wi F L (.call QbU [(.c a0), (.c (.str [99, 97, 99, 104, 101, 45, 99, 111, 110, 116, 114, 111, 108]))]) E0 h fun v13 h =>
 (Qsy L K a0 v2 v13 h)))
theorem Qy8 {L : QL} {K : QK} {a0 : V} {h : Heap} (hp : Qph L K a0 h) : Cf F L QdR [a0] h K :=
  wcallp Qwn (of_decide_eq_true (by kernel_rfl)) (p := Qph L K a0 h) (by kernel_rfl) hp
def Qt2 (L : QL) (K : QK) (v7 : V) (h : Heap) : Prop :=
 (∃ v, some v7 = some v ∧ K v h)
def Qr8 (L : QL) (K : QK) (v5 v6 : V) (h : Heap) : Prop :=
 (wi F L (.call Qdi [(.c v5)]) E0 h fun v19 h =>
 (wi F L (.ext 0 (.c v19)) E0 h fun v20 h =>
 (wi F L (.ext 1 (.c v19)) E0 h fun v21 h =>
 (wi F L (.bin .gtr (.c v6) (.c (.int .i64 1))) E0 h fun v23 h =>
 (wg v23 false (wi F L (.mv (.c v21)) E0 h) h fun v25 h =>
 (wg v23 false (wi F L (.un .not (.c v25)) E0 h) h fun v26 h =>
 (wi F L (.pick (.c v23) (.c (.bool true)) (.c v26)) E0 h fun v27 h =>
 (wb v27
 (∃ v, some (.int .i64 (-2)) = some v ∧ K v h)
 (Qt2 L K v20 h)))))))))
def Qmd (L : QL) (K : QK) (a0 a1 : V) (h : Heap) : Prop :=
 (wi F L (.call QbU [(.c a0), (.c a1)]) E0 h fun v12 h =>
 (wi F L (.ext 0 (.c v12)) E0 h fun v13 h =>
 (wi F L (.ext 1 (.c v12)) E0 h fun v14 h =>
 (wi F L (.bin .eql (.c v14) (.c (.int .i64 0))) E0 h fun v16 h =>
 (wb v16
 (∃ v, some (.int .i64 (-1)) = some v ∧ K v h)
 (Qr8 L K v13 v14 h))))))
theorem QA6 {L : QL} {K : QK} {a0 a1 : V} {h : Heap} (hp : Qmd L K a0 a1 h) : Cf F L QdM [a0, a1] h K :=
  wcallp QFt (of_decide_eq_true (by kernel_rfl)) (p := Qmd L K a0 a1 h) (by kernel_rfl) hp
def Qgk (L : QL) (K : QK) (v6 v7 : V) (h : Heap) : Prop :=
 (∃ v, Qa h (Qd [v6, v7]) [.tmp 0, .tmp 1] = some v ∧ K v h)
def Qgn (L : QL) (K : QK) (N0 : QN) (e : Env) (v8 : V) (h : Heap) : Prop :=
 (wi F L (.bin .add (.c v8) (.c (.int .i64 1))) E0 h fun v14 h =>
 (N0 (upd (upd (upd e 13 v8) 14 v14) 8 v14) h))
def QfY (L : QL) (K : QK) (N0 : QN) (e : Env) (v0 v6 v7 v8 : V) (h : Heap) : Prop :=
 (wi F L (.ixaSl 2 (.c v0) (.c v8)) E0 h fun v29 h =>
 (wi F L (.faddr 1 (.c v29)) E0 h fun v30 h =>
 (wi F L (.load false 1 (.c v30)) E0 h fun v31 h =>
 (wi F L (.bin .add (.c v6) (.c v31)) E0 h fun v32 h =>
 (wi F L (.bin .add (.c v7) (.c (.int .i64 1))) E0 h fun v34 h =>
 (Qgn L K N0 (upd (upd (upd (upd (upd (upd (upd (upd (upd (upd (upd e 26 v6) 27 v0) 28 v8) 29 v29) 30 v30) 31 v31) 32 v32) 6 v32) 33 v7) 34 v34) 7 v34) v8 h))))))
def Qhd (L : QL) (K : QK) (N0 : QN) (e : Env) (v0 v1 v6 v7 v8 : V) (h : Heap) : Prop :=
 (wi F L (.ixaSl 2 (.c v0) (.c v8)) E0 h fun v17 h =>
 (wi F L (.faddr 0 (.c v17)) E0 h fun v18 h =>
 (wi F L (.load false 1 (.c v18)) E0 h fun v19 h =>
 (wi F L (.call QdA [(.c v19), (.c v1)]) E0 h fun v21 h =>
 (wb v21
 (wi F L (.bin .gtr (.c v7) (.c (.int .i64 0))) E0 h fun v23 h =>
 (wb v23
 (wi F L (.bin .add (.c v6) (.c (.str [44, 32]))) E0 h fun v25 h =>
 (QfY L K N0 (upd (upd (upd (upd (upd (upd (upd (upd (upd (upd (upd (upd e 15 v0) 16 v8) 17 v17) 18 v18) 19 v19) 20 v1) 21 v21) 22 v7) 23 v23) 24 v6) 25 v25) 6 v25) v0 v25 v7 v8 h))
 (QfY L K N0 (upd (upd (upd (upd (upd (upd (upd (upd (upd e 15 v0) 16 v8) 17 v17) 18 v18) 19 v19) 20 v1) 21 v21) 22 v7) 23 v23) v0 v6 v7 v8 h)))
 (Qgn L K N0 (upd (upd (upd (upd (upd (upd (upd e 15 v0) 16 v8) 17 v17) 18 v18) 19 v19) 20 v1) 21 v21) v8 h))))))
def Qu6 (L : QL) (K : QK) : X → Env → Heap → Prop := (fun x => (seqX (fun e h => Qgk L K (e 6) (e 7) h) (Qy Qkj.results K)) (X.out 0 x))
def Qv0 : C :=
 (.seq (.seq (.region [⟨(some 9), none, .mv (.t 8)⟩, ⟨(some 10), none, .mv (.t 0)⟩, ⟨(some 11), none, .len 1 (.t 10)⟩, ⟨(some 12), none, .bin .lss (.t 9) (.t 11)⟩])
 (.cond (.t 12)
 .skip
 (.exit 0)))
 (.seq (.block 1 (.seq (.region [⟨(some 15), none, .mv (.t 0)⟩, ⟨(some 16), none, .mv (.t 8)⟩, ⟨(some 17), none, .ixaSl 2 (.t 15) (.t 16)⟩, ⟨(some 18), none, .faddr 0 (.t 17)⟩, ⟨(some 19), none, .load false 1 (.t 18)⟩, ⟨(some 20), none, .mv (.t 1)⟩, ⟨(some 21), none, .call QdA [(.t 19), (.t 20)]⟩])
 (.cond (.t 21)
 (.seq (.seq (.region [⟨(some 22), none, .mv (.t 7)⟩, ⟨(some 23), none, .bin .gtr (.t 22) (.c (.int .i64 0))⟩])
 (.cond (.t 23)
 (.region [⟨(some 24), none, .mv (.t 6)⟩, ⟨(some 25), none, .bin .add (.t 24) (.c (.str [44, 32]))⟩, ⟨(some 6), none, .mv (.t 25)⟩])
 .skip))
 (.seq (.region [⟨(some 26), none, .mv (.t 6)⟩, ⟨(some 27), none, .mv (.t 0)⟩, ⟨(some 28), none, .mv (.t 8)⟩, ⟨(some 29), none, .ixaSl 2 (.t 27) (.t 28)⟩, ⟨(some 30), none, .faddr 1 (.t 29)⟩, ⟨(some 31), none, .load false 1 (.t 30)⟩, ⟨(some 32), none, .bin .add (.t 26) (.t 31)⟩, ⟨(some 6), none, .mv (.t 32)⟩])
 (.region [⟨(some 33), none, .mv (.t 7)⟩, ⟨(some 34), none, .bin .add (.t 33) (.c (.int .i64 1))⟩, ⟨(some 7), none, .mv (.t 34)⟩])))
 .skip)))
 (.region [⟨(some 13), none, .mv (.t 8)⟩, ⟨(some 14), none, .bin .add (.t 13) (.c (.int .i64 1))⟩, ⟨(some 8), none, .mv (.t 14)⟩])))
def Qmq (L : QL) (K : QK) (N0 : QN) (e : Env) (h : Heap) : Prop :=
 (wi F L (.len 1 (.c (e 0))) E0 h fun v11 h =>
 (wi F L (.bin .lss (.c (e 8)) (.c v11)) E0 h fun v12 h =>
 (wb v12
 (Qhd L K N0 (upd (upd (upd (upd e 9 (e 8)) 10 (e 0)) 11 v11) 12 v12) (e 0) (e 1) (e 6) (e 7) (e 8) h)
 (Qgk L K (e 6) (e 7) h))))
theorem QBd {L : QL} {K : QK} (I : Nat → Env → Heap → Prop) (hr : ∀ n e h, I n e h → Qmq L K (fun e' h' => ∃ m, m < n ∧ I m e' h') e h) {n : Nat} {e : Env} {h : Heap} (hi : I n e h) : Wl F L Qv0 (Qu6 L K) e h :=
  wloopp (b := Qmq L K) I (fun _ _ _ => by kernel_rfl) hr hi
def QlG (L : QL) (K : QK) (a0 a1 : V) (h : Heap) : Prop :=
 (Wl F L Qv0 (Qu6 L K) (upd (upd (upd (upd (upd (Qd [a0, a1]) 4 (.str [])) 5 (.int .i64 0)) 6 (.str [])) 7 (.int .i64 0)) 8 (.int .i64 0)) h)
theorem QzU {L : QL} {K : QK} {a0 a1 : V} {h : Heap} (hp : QlG L K a0 a1 h) : Cf F L QbU [a0, a1] h K :=
  wcallp QBZ (of_decide_eq_true (by kernel_rfl)) (p := QlG L K a0 a1 h) (by kernel_rfl) hp
def QbP (L : QL) (K : QK) (v4 : V) (h : Heap) : Prop :=
 (∃ v, Qa h (Qd [v4, (.bool true)]) [.tmp 0, .tmp 1] = some v ∧ K v h)
def Qci (L : QL) (K : QK) (v4 v5 : V) (h : Heap) : Prop :=
 (wi F L (.bin .neq (.c v5) (.c (.str []))) E0 h fun v68 h =>
 (wb v68
 (wi F L (.bsl 1 [(.c v5)]) E0 h fun v71 h =>
 (wi F L (.app 1 16 false (.c v4) (.c v71)) E0 h fun v72 h =>
 (QbP L K v72 h)))
 (QbP L K v4 h)))
def Qb2 (L : QL) (K : QK) (v4 v5 v6 : V) (h : Heap) : Prop :=
 (wi F L (.call Qd2 [(.c v5)]) E0 h fun v65 h =>
 (wb v6
 (∃ v, Qa h (Qd [.nsl, (.bool false)]) [.tmp 0, .tmp 1] = some v ∧ K v h)
 (Qci L K v4 v65 h)))
def QbM (L : QL) (K : QK) (N0 : QN) (e : Env) (v7 : V) (h : Heap) : Prop :=
 (wi F L (.bin .add (.c v7) (.c (.int .i64 1))) E0 h fun v14 h =>
 (N0 (upd (upd (upd e 13 v7) 14 v14) 7 v14) h))
def Qb6 (L : QL) (K : QK) (N0 : QN) (e : Env) (v0 v5 v6 v7 v8 : V) (h : Heap) : Prop :=
 (wg v6 true (wi F L (.mv (.c v8)) E0 h) h fun v45 h =>
 (wg v6 true (wi F L (.bin .eql (.c v45) (.c (.int .u8 92))) E0 h) h fun v46 h =>
 (wi F L (.pick (.c v6) (.c v46) (.c (.bool false))) E0 h fun v47 h =>
 (wg v47 true (wi F L (.mv (.c v7)) E0 h) h fun v49 h =>
 (wg v47 true (wi F L (.bin .add (.c v49) (.c (.int .i64 1))) E0 h) h fun v50 h =>
 (wg v47 true (wi F L (.mv (.c v0)) E0 h) h fun v51 h =>
 (wg v47 true (wi F L (.len 0 (.c v51)) E0 h) h fun v52 h =>
 (wg v47 true (wi F L (.bin .lss (.c v50) (.c v52)) E0 h) h fun v53 h =>
 (wi F L (.pick (.c v47) (.c v53) (.c (.bool false))) E0 h fun v54 h =>
 (wb v54
 (wi F L (.bin .add (.c v7) (.c (.int .i64 1))) E0 h fun v56 h =>
 (wi F L (.bin .add (.c v56) (.c (.int .i64 1))) E0 h fun v61 h =>
 (wi F L (.slstr (.c v0) (some (.c v56)) (some (.c v61))) E0 h fun v62 h =>
 (wi F L (.bin .add (.c v5) (.c v62)) E0 h fun v63 h =>
 (QbM L K N0 (upd (upd (upd (upd (upd (upd (upd (upd (upd (upd (upd (upd (upd (upd (upd (upd (upd (upd (upd (upd (upd (upd (upd e 43 v6) 44 v6) 45 v45) 46 v46) 47 v47) 48 v47) 49 v49) 50 v50) 51 v51) 52 v52) 53 v53) 54 v54) 55 v7) 56 v56) 7 v56) 57 v5) 58 v0) 59 v56) 60 v56) 61 v61) 62 v62) 63 v63) 5 v63) v56 h)))))
 (QbM L K N0 (upd (upd (upd (upd (upd (upd (upd (upd (upd (upd (upd (upd e 43 v6) 44 v6) 45 v45) 46 v46) 47 v47) 48 v47) 49 v49) 50 v50) 51 v51) 52 v52) 53 v53) 54 v54) v7 h)))))))))))
def Qcr (L : QL) (K : QK) (N0 : QN) (e : Env) (v0 v5 v6 v7 v8 : V) (h : Heap) : Prop :=
 (wi F L (.bin .add (.c v7) (.c (.int .i64 1))) E0 h fun v36 h =>
 (wi F L (.slstr (.c v0) (some (.c v7)) (some (.c v36))) E0 h fun v37 h =>
 (wi F L (.bin .add (.c v5) (.c v37)) E0 h fun v38 h =>
 (wi F L (.bin .eql (.c v8) (.c (.int .u8 34))) E0 h fun v40 h =>
 (wb v40
 (wi F L (.un .not (.c v6)) E0 h fun v42 h =>
 (Qb6 L K N0 (upd (upd (upd (upd (upd (upd (upd (upd (upd (upd (upd (upd (upd e 32 v5) 33 v0) 34 v7) 35 v7) 36 v36) 37 v37) 38 v38) 5 v38) 39 v8) 40 v40) 41 v6) 42 v42) 6 v42) v0 v38 v42 v7 v8 h))
 (Qb6 L K N0 (upd (upd (upd (upd (upd (upd (upd (upd (upd (upd e 32 v5) 33 v0) 34 v7) 35 v7) 36 v36) 37 v37) 38 v38) 5 v38) 39 v8) 40 v40) v0 v38 v6 v7 v8 h))))))
def QbS (L : QL) (K : QK) (N0 : QN) (e : Env) (v7 : V) (h : Heap) : Prop :=
 (QbM L K N0 (upd e 5 (.str [])) v7 h)
def Qcg (L : QL) (K : QK) (N0 : QN) (e : Env) (v0 v4 v5 v6 v7 : V) (h : Heap) : Prop :=
 (wi F L (.ixStr (.c v0) (.c v7)) E0 h fun v17 h =>
 (wi F L (.un .not (.c v6)) E0 h fun v19 h =>
 (wg v19 true (wi F L (.mv (.c v17)) E0 h) h fun v21 h =>
 (wg v19 true (wi F L (.bin .eql (.c v21) (.c (.int .u8 44))) E0 h) h fun v22 h =>
 (wi F L (.pick (.c v19) (.c v22) (.c (.bool false))) E0 h fun v23 h =>
 (wb v23
 (wi F L (.call Qd2 [(.c v5)]) E0 h fun v25 h =>
 (wi F L (.bin .neq (.c v25) (.c (.str []))) E0 h fun v27 h =>
 (wb v27
 (wi F L (.bsl 1 [(.c v25)]) E0 h fun v30 h =>
 (wi F L (.app 1 16 false (.c v4) (.c v30)) E0 h fun v31 h =>
 (QbS L K N0 (upd (upd (upd (upd (upd (upd (upd (upd (upd (upd (upd (upd (upd (upd (upd (upd (upd (upd (upd (upd e 15 v0) 16 v7) 17 v17) 8 v17) 18 v6) 19 v19) 20 v19) 21 v21) 22 v22) 23 v23) 24 v5) 25 v25) 5 v25) 26 v25) 27 v27) 28 v4) 29 v25) 30 v30) 31 v31) 4 v31) v7 h)))
 (QbS L K N0 (upd (upd (upd (upd (upd (upd (upd (upd (upd (upd (upd (upd (upd (upd (upd e 15 v0) 16 v7) 17 v17) 8 v17) 18 v6) 19 v19) 20 v19) 21 v21) 22 v22) 23 v23) 24 v5) 25 v25) 5 v25) 26 v25) 27 v27) v7 h))))
 (Qcr L K N0 (upd (upd (upd (upd (upd (upd (upd (upd (upd (upd e 15 v0) 16 v7) 17 v17) 8 v17) 18 v6) 19 v19) 20 v19) 21 v21) 22 v22) 23 v23) v0 v5 v6 v7 v17 h)))))))
def Quy (L : QL) (K : QK) : X → Env → Heap → Prop := (fun x => (seqX (fun e h => Qb2 L K (e 4) (e 5) (e 6) h) (Qy Qjb.results K)) (X.out 0 x))
def Qv6 : C :=
 (.seq (.seq (.region [⟨(some 9), none, .mv (.t 7)⟩, ⟨(some 10), none, .mv (.t 0)⟩, ⟨(some 11), none, .len 0 (.t 10)⟩, ⟨(some 12), none, .bin .lss (.t 9) (.t 11)⟩])
 (.cond (.t 12)
 .skip
 (.exit 0)))
 (.seq (.block 1 (.seq (.region [⟨(some 15), none, .mv (.t 0)⟩, ⟨(some 16), none, .mv (.t 7)⟩, ⟨(some 17), none, .ixStr (.t 15) (.t 16)⟩, ⟨(some 8), none, .mv (.t 17)⟩])
 (.seq (.seq (.region [⟨(some 18), none, .mv (.t 6)⟩, ⟨(some 19), none, .un .not (.t 18)⟩, ⟨(some 20), none, .mv (.t 19)⟩, ⟨(some 21), (some (20, true)), .mv (.t 8)⟩, ⟨(some 22), (some (20, true)), .bin .eql (.t 21) (.c (.int .u8 44))⟩, ⟨(some 23), none, .pick (.t 20) (.t 22) (.c (.bool false))⟩])
 (.cond (.t 23)
 (.seq (.region [⟨(some 24), none, .mv (.t 5)⟩, ⟨(some 25), none, .call Qd2 [(.t 24)]⟩, ⟨(some 5), none, .mv (.t 25)⟩])
 (.seq (.seq (.region [⟨(some 26), none, .mv (.t 5)⟩, ⟨(some 27), none, .bin .neq (.t 26) (.c (.str []))⟩])
 (.cond (.t 27)
 (.region [⟨(some 28), none, .mv (.t 4)⟩, ⟨(some 29), none, .mv (.t 5)⟩, ⟨(some 30), none, .bsl 1 [(.t 29)]⟩, ⟨(some 31), none, .app 1 16 false (.t 28) (.t 30)⟩, ⟨(some 4), none, .mv (.t 31)⟩])
 .skip))
 (.seq (.region [⟨(some 5), none, .mv (.c (.str []))⟩])
 (.exit 1))))
 .skip))
 (.seq (.region [⟨(some 32), none, .mv (.t 5)⟩, ⟨(some 33), none, .mv (.t 0)⟩, ⟨(some 34), none, .mv (.t 7)⟩, ⟨(some 35), none, .mv (.t 7)⟩, ⟨(some 36), none, .bin .add (.t 35) (.c (.int .i64 1))⟩, ⟨(some 37), none, .slstr (.t 33) (some (.t 34)) (some (.t 36))⟩, ⟨(some 38), none, .bin .add (.t 32) (.t 37)⟩, ⟨(some 5), none, .mv (.t 38)⟩])
 (.seq (.seq (.region [⟨(some 39), none, .mv (.t 8)⟩, ⟨(some 40), none, .bin .eql (.t 39) (.c (.int .u8 34))⟩])
 (.cond (.t 40)
 (.region [⟨(some 41), none, .mv (.t 6)⟩, ⟨(some 42), none, .un .not (.t 41)⟩, ⟨(some 6), none, .mv (.t 42)⟩])
 .skip))
 (.seq (.region [⟨(some 43), none, .mv (.t 6)⟩, ⟨(some 44), none, .mv (.t 43)⟩, ⟨(some 45), (some (44, true)), .mv (.t 8)⟩, ⟨(some 46), (some (44, true)), .bin .eql (.t 45) (.c (.int .u8 92))⟩, ⟨(some 47), none, .pick (.t 44) (.t 46) (.c (.bool false))⟩, ⟨(some 48), none, .mv (.t 47)⟩, ⟨(some 49), (some (48, true)), .mv (.t 7)⟩, ⟨(some 50), (some (48, true)), .bin .add (.t 49) (.c (.int .i64 1))⟩, ⟨(some 51), (some (48, true)), .mv (.t 0)⟩, ⟨(some 52), (some (48, true)), .len 0 (.t 51)⟩, ⟨(some 53), (some (48, true)), .bin .lss (.t 50) (.t 52)⟩, ⟨(some 54), none, .pick (.t 48) (.t 53) (.c (.bool false))⟩])
 (.cond (.t 54)
 (.seq (.region [⟨(some 55), none, .mv (.t 7)⟩, ⟨(some 56), none, .bin .add (.t 55) (.c (.int .i64 1))⟩, ⟨(some 7), none, .mv (.t 56)⟩])
 (.region [⟨(some 57), none, .mv (.t 5)⟩, ⟨(some 58), none, .mv (.t 0)⟩, ⟨(some 59), none, .mv (.t 7)⟩, ⟨(some 60), none, .mv (.t 7)⟩, ⟨(some 61), none, .bin .add (.t 60) (.c (.int .i64 1))⟩, ⟨(some 62), none, .slstr (.t 58) (some (.t 59)) (some (.t 61))⟩, ⟨(some 63), none, .bin .add (.t 57) (.t 62)⟩, ⟨(some 5), none, .mv (.t 63)⟩]))
 .skip)))))))
 (.region [⟨(some 13), none, .mv (.t 7)⟩, ⟨(some 14), none, .bin .add (.t 13) (.c (.int .i64 1))⟩, ⟨(some 7), none, .mv (.t 14)⟩])))
def Qol (L : QL) (K : QK) (N0 : QN) (e : Env) (h : Heap) : Prop :=
 (wi F L (.len 0 (.c (e 0))) E0 h fun v11 h =>
 (wi F L (.bin .lss (.c (e 7)) (.c v11)) E0 h fun v12 h =>
 (wb v12
 (Qcg L K N0 (upd (upd (upd (upd e 9 (e 7)) 10 (e 0)) 11 v11) 12 v12) (e 0) (e 4) (e 5) (e 6) (e 7) h)
 (Qb2 L K (e 4) (e 5) (e 6) h))))
theorem Qyg {L : QL} {K : QK} (I : Nat → Env → Heap → Prop) (hr : ∀ n e h, I n e h → Qol L K (fun e' h' => ∃ m, m < n ∧ I m e' h') e h) {n : Nat} {e : Env} {h : Heap} (hi : I n e h) : Wl F L Qv6 (Quy L K) e h :=
  wloopp (b := Qol L K) I (fun _ _ _ => by kernel_rfl) hr hi
def Qlf (L : QL) (K : QK) (a0 : V) (h : Heap) : Prop :=
 (Wl F L Qv6 (Quy L K) (upd (upd (upd (upd (upd (upd (Qd [a0]) 2 .nsl) 3 (.bool false)) 4 .nsl) 5 (.str [])) 6 (.bool false)) 7 (.int .i64 0)) h)
theorem QF1 {L : QL} {K : QK} {a0 : V} {h : Heap} (hp : Qlf L K a0 h) : Cf F L Qc4 [a0] h K :=
  wcallp QGl (of_decide_eq_true (by kernel_rfl)) (p := Qlf L K a0 h) (by kernel_rfl) hp
def Qb1 (L : QL) (K : QK) (v6 : V) (h : Heap) : Prop :=
 (∃ v, Qa h (Qd [v6, (.bool true)]) [.tmp 0, .tmp 1] = some v ∧ K v h)
def Qce (L : QL) (K : QK) (N0 : QN) (e : Env) (v8 : V) (h : Heap) : Prop :=
 (wi F L (.bin .add (.c v8) (.c (.int .i64 1))) E0 h fun v38 h =>
 (N0 (upd (upd (upd e 37 v8) 38 v38) 8 v38) h))
def Qcf (L : QL) (K : QK) (N0 : QN) (e : Env) (v6 v8 v9 : V) (h : Heap) : Prop :=
 (wi F L (.bin .mul (.c v6) (.c (.int .i64 10))) E0 h fun v57 h =>
 (wi F L (.bin .add (.c v57) (.c v9)) E0 h fun v59 h =>
 (Qce L K N0 (upd (upd (upd (upd (upd e 56 v6) 57 v57) 58 v9) 59 v59) 6 v59) v8 h)))
def Qcx (L : QL) (K : QK) (N0 : QN) (e : Env) (v0 v1 v6 v8 : V) (h : Heap) : Prop :=
 (wi F L (.ixStr (.c v0) (.c v8)) E0 h fun v41 h =>
 (wi F L (.bin .sub (.c v41) (.c (.int .u8 48))) E0 h fun v42 h =>
 (wi F L (.toInt .i64 (.c v42)) E0 h fun v43 h =>
 (wi F L (.bin .sub (.c v1) (.c v43)) E0 h fun v47 h =>
 (wi F L (.bin .quo (.c v47) (.c (.int .i64 10))) E0 h fun v48 h =>
 (wi F L (.bin .gtr (.c v6) (.c v48)) E0 h fun v49 h =>
 (wg v49 false (wi F L (.mv (.c v1)) E0 h) h fun v51 h =>
 (wg v49 false (wi F L (.mv (.c v43)) E0 h) h fun v52 h =>
 (wg v49 false (wi F L (.bin .lss (.c v51) (.c v52)) E0 h) h fun v53 h =>
 (wi F L (.pick (.c v49) (.c (.bool true)) (.c v53)) E0 h fun v54 h =>
 (wb v54
 (∃ v, Qa h (Qd [v1, (.bool true)]) [.tmp 0, .tmp 1] = some v ∧ K v h)
 (Qcf L K N0 (upd (upd (upd (upd (upd (upd (upd (upd (upd (upd (upd (upd (upd (upd (upd (upd (upd e 39 v0) 40 v8) 41 v41) 42 v42) 43 v43) 9 v43) 44 v6) 45 v1) 46 v43) 47 v47) 48 v48) 49 v49) 50 v49) 51 v51) 52 v52) 53 v53) 54 v54) v6 v8 v43 h))))))))))))
def Qry (L : QL) (K : QK) : X → Env → Heap → Prop := (fun x => (seqX (fun e h => Qb1 L K (e 6) h) (Qy QhP.results K)) (X.out 2 x))
def QvQ : C :=
 (.seq (.seq (.region [⟨(some 33), none, .mv (.t 8)⟩, ⟨(some 34), none, .mv (.t 0)⟩, ⟨(some 35), none, .len 0 (.t 34)⟩, ⟨(some 36), none, .bin .lss (.t 33) (.t 35)⟩])
 (.cond (.t 36)
 .skip
 (.exit 2)))
 (.seq (.block 3 (.seq (.region [⟨(some 39), none, .mv (.t 0)⟩, ⟨(some 40), none, .mv (.t 8)⟩, ⟨(some 41), none, .ixStr (.t 39) (.t 40)⟩, ⟨(some 42), none, .bin .sub (.t 41) (.c (.int .u8 48))⟩, ⟨(some 43), none, .toInt .i64 (.t 42)⟩, ⟨(some 9), none, .mv (.t 43)⟩])
 (.seq (.seq (.region [⟨(some 44), none, .mv (.t 6)⟩, ⟨(some 45), none, .mv (.t 1)⟩, ⟨(some 46), none, .mv (.t 9)⟩, ⟨(some 47), none, .bin .sub (.t 45) (.t 46)⟩, ⟨(some 48), none, .bin .quo (.t 47) (.c (.int .i64 10))⟩, ⟨(some 49), none, .bin .gtr (.t 44) (.t 48)⟩, ⟨(some 50), none, .mv (.t 49)⟩, ⟨(some 51), (some (50, false)), .mv (.t 1)⟩, ⟨(some 52), (some (50, false)), .mv (.t 9)⟩, ⟨(some 53), (some (50, false)), .bin .lss (.t 51) (.t 52)⟩, ⟨(some 54), none, .pick (.t 50) (.c (.bool true)) (.t 53)⟩])
 (.cond (.t 54)
 (.seq (.region [⟨(some 55), none, .mv (.t 1)⟩, ⟨(some 4), none, .mv (.t 55)⟩, ⟨(some 5), none, .mv (.c (.bool true))⟩])
 .ret)
 .skip))
 (.region [⟨(some 56), none, .mv (.t 6)⟩, ⟨(some 57), none, .bin .mul (.t 56) (.c (.int .i64 10))⟩, ⟨(some 58), none, .mv (.t 9)⟩, ⟨(some 59), none, .bin .add (.t 57) (.t 58)⟩, ⟨(some 6), none, .mv (.t 59)⟩]))))
 (.region [⟨(some 37), none, .mv (.t 8)⟩, ⟨(some 38), none, .bin .add (.t 37) (.c (.int .i64 1))⟩, ⟨(some 8), none, .mv (.t 38)⟩])))
def Qls (L : QL) (K : QK) (N0 : QN) (e : Env) (h : Heap) : Prop :=
 (wi F L (.len 0 (.c (e 0))) E0 h fun v35 h =>
 (wi F L (.bin .lss (.c (e 8)) (.c v35)) E0 h fun v36 h =>
 (wb v36
 (Qcx L K N0 (upd (upd (upd (upd e 33 (e 8)) 34 (e 0)) 35 v35) 36 v36) (e 0) (e 1) (e 6) (e 8) h)
 (Qb1 L K (e 6) h))))
theorem QJA {L : QL} {K : QK} (I : Nat → Env → Heap → Prop) (hr : ∀ n e h, I n e h → Qls L K (fun e' h' => ∃ m, m < n ∧ I m e' h') e h) {n : Nat} {e : Env} {h : Heap} (hi : I n e h) : Wl F L QvQ (Qry L K) e h :=
  wloopp (b := Qls L K) I (fun _ _ _ => by kernel_rfl) hr hi
def Qb5 (L : QL) (K : QK) (e : Env) (h : Heap) : Prop :=
 (Wl F L QvQ (Qry L K) (upd e 8 (.int .i64 0)) h)
def Qcj (L : QL) (K : QK) (N0 : QN) (e : Env) (v7 : V) (h : Heap) : Prop :=
 (wi F L (.bin .add (.c v7) (.c (.int .i64 1))) E0 h fun v22 h =>
 (N0 (upd (upd (upd e 21 v7) 22 v22) 7 v22) h))
def Qck (L : QL) (K : QK) (N0 : QN) (e : Env) (v0 v7 : V) (h : Heap) : Prop :=
 (wi F L (.ixStr (.c v0) (.c v7)) E0 h fun v25 h =>
 (wi F L (.bin .lss (.c v25) (.c (.int .u8 48))) E0 h fun v26 h =>
 (wg v26 false (wi F L (.mv (.c v0)) E0 h) h fun v28 h =>
 (wg v26 false (wi F L (.mv (.c v7)) E0 h) h fun v29 h =>
 (wg v26 false (wi F L (.ixStr (.c v28) (.c v29)) E0 h) h fun v30 h =>
 (wg v26 false (wi F L (.bin .gtr (.c v30) (.c (.int .u8 57))) E0 h) h fun v31 h =>
 (wi F L (.pick (.c v26) (.c (.bool true)) (.c v31)) E0 h fun v32 h =>
 (wb v32
 (∃ v, Qa h (Qd [(.int .i64 0), (.bool false)]) [.tmp 0, .tmp 1] = some v ∧ K v h)
 (Qcj L K N0 (upd (upd (upd (upd (upd (upd (upd (upd (upd (upd e 23 v0) 24 v7) 25 v25) 26 v26) 27 v26) 28 v28) 29 v29) 30 v30) 31 v31) 32 v32) v7 h)))))))))
def QvF (L : QL) (K : QK) : X → Env → Heap → Prop := (fun x => (seqX (fun e h => Qb5 L K e  h) (Qy QhP.results K)) (X.out 0 x))
def QrS : C :=
 (.seq (.seq (.region [⟨(some 17), none, .mv (.t 7)⟩, ⟨(some 18), none, .mv (.t 0)⟩, ⟨(some 19), none, .len 0 (.t 18)⟩, ⟨(some 20), none, .bin .lss (.t 17) (.t 19)⟩])
 (.cond (.t 20)
 .skip
 (.exit 0)))
 (.seq (.block 1 (.seq (.region [⟨(some 23), none, .mv (.t 0)⟩, ⟨(some 24), none, .mv (.t 7)⟩, ⟨(some 25), none, .ixStr (.t 23) (.t 24)⟩, ⟨(some 26), none, .bin .lss (.t 25) (.c (.int .u8 48))⟩, ⟨(some 27), none, .mv (.t 26)⟩, ⟨(some 28), (some (27, false)), .mv (.t 0)⟩, ⟨(some 29), (some (27, false)), .mv (.t 7)⟩, ⟨(some 30), (some (27, false)), .ixStr (.t 28) (.t 29)⟩, ⟨(some 31), (some (27, false)), .bin .gtr (.t 30) (.c (.int .u8 57))⟩, ⟨(some 32), none, .pick (.t 27) (.c (.bool true)) (.t 31)⟩])
 (.cond (.t 32)
 (.seq (.region [⟨(some 4), none, .mv (.c (.int .i64 0))⟩, ⟨(some 5), none, .mv (.c (.bool false))⟩])
 .ret)
 .skip)))
 (.region [⟨(some 21), none, .mv (.t 7)⟩, ⟨(some 22), none, .bin .add (.t 21) (.c (.int .i64 1))⟩, ⟨(some 7), none, .mv (.t 22)⟩])))
def QlX (L : QL) (K : QK) (N0 : QN) (e : Env) (h : Heap) : Prop :=
 (wi F L (.len 0 (.c (e 0))) E0 h fun v19 h =>
 (wi F L (.bin .lss (.c (e 7)) (.c v19)) E0 h fun v20 h =>
 (wb v20
 (Qck L K N0 (upd (upd (upd (upd e 17 (e 7)) 18 (e 0)) 19 v19) 20 v20) (e 0) (e 7) h)
 (Qb5 L K (upd (upd (upd (upd e 17 (e 7)) 18 (e 0)) 19 v19) 20 v20)  h))))
theorem QJm {L : QL} {K : QK} (I : Nat → Env → Heap → Prop) (hr : ∀ n e h, I n e h → QlX L K (fun e' h' => ∃ m, m < n ∧ I m e' h') e h) {n : Nat} {e : Env} {h : Heap} (hi : I n e h) : Wl F L QrS (QvF L K) e h :=
  wloopp (b := QlX L K) I (fun _ _ _ => by kernel_rfl) hr hi
def Qcs (L : QL) (K : QK) (e : Env) (h : Heap) : Prop :=
 (Wl F L QrS (QvF L K) (upd (upd e 6 (.int .i64 0)) 7 (.int .i64 0)) h)
def QpH (L : QL) (K : QK) (a0 a1 : V) (h : Heap) : Prop :=
 (wi F L (.bin .lss (.c a1) (.c (.int .i64 0))) E0 h fun v11 h =>
 (wg v11 false (wi F L (.mv (.c a0)) E0 h) h fun v13 h =>
 (wg v11 false (wi F L (.len 0 (.c v13)) E0 h) h fun v14 h =>
 (wg v11 false (wi F L (.bin .eql (.c v14) (.c (.int .i64 0))) E0 h) h fun v15 h =>
 (wi F L (.pick (.c v11) (.c (.bool true)) (.c v15)) E0 h fun v16 h =>
 (wb v16
 (∃ v, Qa h (Qd [(.int .i64 0), (.bool false)]) [.tmp 0, .tmp 1] = some v ∧ K v h)
 (Qcs L K (upd (upd (upd (upd (upd (upd (upd (upd (upd (Qd [a0, a1]) 4 (.int .i64 0)) 5 (.bool false)) 10 a1) 11 v11) 12 v11) 13 v13) 14 v14) 15 v15) 16 v16)  h)))))))
theorem QBl {L : QL} {K : QK} {a0 a1 : V} {h : Heap} (hp : QpH L K a0 a1 h) : Cf F L Qeh [a0, a1] h K :=
  wcallp QB8 (of_decide_eq_true (by kernel_rfl)) (p := QpH L K a0 a1 h) (by kernel_rfl) hp
def Qd6 (L : QL) (K : QK) (h : Heap) : Prop :=
 (∃ v, some (.bool true) = some v ∧ K v h)
def QkZ (L : QL) (K : QK) (a0 a1 : V) (h : Heap) : Prop :=
 (wi F L (.bin .lss (.c a0) (.c (.int .i64 200))) E0 h fun v7 h =>
 (wg v7 false (wi F L (.mv (.c a0)) E0 h) h fun v9 h =>
 (wg v7 false (wi F L (.bin .gtr (.c v9) (.c (.int .i64 599))) E0 h) h fun v10 h =>
 (wi F L (.pick (.c v7) (.c (.bool true)) (.c v10)) E0 h fun v11 h =>
 (wg v11 false (wi F L (.mv (.c a0)) E0 h) h fun v13 h =>
 (wg v11 false (wi F L (.bin .eql (.c v13) (.c (.int .i64 304))) E0 h) h fun v14 h =>
 (wi F L (.pick (.c v11) (.c (.bool true)) (.c v14)) E0 h fun v15 h =>
 (wb v15
 (∃ v, some (.bool false) = some v ∧ K v h)
 (wi F L (.bin .lss (.c a0) (.c (.int .i64 300))) E0 h fun v18 h =>
 (wg v18 true (wi F L (.mv (.c a1)) E0 h) h fun v20 h =>
 (wi F L (.pick (.c v18) (.c v20) (.c (.bool false))) E0 h fun v21 h =>
 (wb v21
 (wi F L (.bin .eql (.c a0) (.c (.int .i64 200))) E0 h fun v23 h =>
 (wg v23 false (wi F L (.mv (.c a0)) E0 h) h fun v25 h =>
 (wg v23 false (wi F L (.bin .eql (.c v25) (.c (.int .i64 206))) E0 h) h fun v26 h =>
 (wi F L (.pick (.c v23) (.c (.bool true)) (.c v26)) E0 h fun v27 h =>
 (∃ v, some v27 = some v ∧ K v h)))))
 (Qd6 L K  h)))))))))))))
theorem QIz {L : QL} {K : QK} {a0 a1 : V} {h : Heap} (hp : QkZ L K a0 a1 h) : Cf F L Qgr [a0, a1] h K :=
  wcallp Qwt (of_decide_eq_true (by kernel_rfl)) (p := QkZ L K a0 a1 h) (by kernel_rfl) hp
def Qm2 (L : QL) (K : QK) (a0 : V) (h : Heap) : Prop :=
 (wi F L (.call Qb9 [(.c a0), (.c (.str [86, 97, 114, 121]))]) E0 h fun v9 h =>
 (wi F L (.ext 0 (.c v9)) E0 h fun v10 h =>
 (wi F L (.ext 1 (.c v9)) E0 h fun v11 h =>
 (wi F L (.call Qc0 [(.c v10)]) E0 h fun v14 h =>
 (wi F L (.ext 0 (.c v14)) E0 h fun v15 h =>
 (wi F L (.ext 1 (.c v14)) E0 h fun v16 h =>
 (wi F L (.un .not (.c v16)) E0 h fun v18 h =>
 (wg v18 false (wi F L (.mv (.c v15)) E0 h) h fun v20 h =>
 (wg v18 false (wi F L (.call Qfd [(.c v20), (.c (.str [42]))]) E0 h) h fun v21 h =>
 (wi F L (.pick (.c v18) (.c (.bool true)) (.c v21)) E0 h fun v22 h =>
 (∃ v, some v22 = some v ∧ K v h)))))))))))
theorem QJG {L : QL} {K : QK} {a0 : V} {h : Heap} (hp : Qm2 L K a0 h) : Cf F L QfL [a0] h K :=
  wcallp QCA (of_decide_eq_true (by kernel_rfl)) (p := Qm2 L K a0 h) (by kernel_rfl) hp
def Qge (L : QL) (K : QK) (h : Heap) : Prop :=
 (∃ v, some (.bool false) = some v ∧ K v h)
def Qg4 (L : QL) (K : QK) (N0 : QN) (e : Env) (v6 : V) (h : Heap) : Prop :=
 (wi F L (.bin .add (.c v6) (.c (.int .i64 1))) E0 h fun v12 h =>
 (N0 (upd (upd e 12 v12) 6 v12) h))
def Qg8 (L : QL) (K : QK) (N0 : QN) (e : Env) (v0 v5 v6 : V) (h : Heap) : Prop :=
 (wi F L (.ixArr 12 1 false (.c v5) (.c v6)) E0 h fun v8 h =>
 (wi F L (.bin .eql (.c v8) (.c v0)) E0 h fun v11 h =>
 (wb v11
 (∃ v, some (.bool true) = some v ∧ K v h)
 (Qg4 L K N0 (upd (upd (upd (upd (upd e 8 v8) 4 v8) 9 v8) 10 v0) 11 v11) v6 h))))
def Qt3 (L : QL) (K : QK) : X → Env → Heap → Prop := (fun x => (seqX (fun e h => Qge L K  h) (Qy Qi7.results K)) (X.out 0 x))
def Qun : C :=
 (.seq (.region [⟨(some 7), none, .bin .lss (.t 6) (.c (.int .i64 12))⟩])
 (.seq (.cond (.t 7)
 .skip
 (.exit 0))
 (.seq (.block 1 (.seq (.region [⟨(some 8), none, .ixArr 12 1 false (.t 5) (.t 6)⟩, ⟨(some 4), none, .mv (.t 8)⟩])
 (.seq (.region [⟨(some 9), none, .mv (.t 4)⟩, ⟨(some 10), none, .mv (.t 0)⟩, ⟨(some 11), none, .bin .eql (.t 9) (.t 10)⟩])
 (.cond (.t 11)
 (.seq (.region [⟨(some 2), none, .mv (.c (.bool true))⟩])
 .ret)
 .skip))))
 (.region [⟨(some 12), none, .bin .add (.t 6) (.c (.int .i64 1))⟩, ⟨(some 6), none, .mv (.t 12)⟩]))))
def Qpw (L : QL) (K : QK) (N0 : QN) (e : Env) (h : Heap) : Prop :=
 (wi F L (.bin .lss (.c (e 6)) (.c (.int .i64 12))) E0 h fun v7 h =>
 (wb v7
 (Qg8 L K N0 (upd e 7 v7) (e 0) (e 5) (e 6) h)
 (Qge L K  h)))
theorem QzW {L : QL} {K : QK} (I : Nat → Env → Heap → Prop) (hr : ∀ n e h, I n e h → Qpw L K (fun e' h' => ∃ m, m < n ∧ I m e' h') e h) {n : Nat} {e : Env} {h : Heap} (hi : I n e h) : Wl F L Qun (Qt3 L K) e h :=
  wloopp (b := Qpw L K) I (fun _ _ _ => by kernel_rfl) hr hi
def Qqm (L : QL) (K : QK) (a0 : V) (h : Heap) : Prop :=
 (wi F L (.call QfH []) E0 h fun v5 h =>
 (Wl F L Qun (Qt3 L K) (upd (upd (upd (Qd [a0]) 2 (.bool false)) 5 v5) 6 (.int .i64 0)) h))
theorem QGR {L : QL} {K : QK} {a0 : V} {h : Heap} (hp : Qqm L K a0 h) : Cf F L Qfm [a0] h K :=
  wcallp QyJ (of_decide_eq_true (by kernel_rfl)) (p := Qqm L K a0 h) (by kernel_rfl) hp
def Qk1 (L : QL) (K : QK) (a0 a1 : V) (h : Heap) : Prop :=
 (wi F L (.call QbU [(.c a0), (.c a1)]) E0 h fun v10 h =>
 (wi F L (.ext 0 (.c v10)) E0 h fun v11 h =>
 (wi F L (.ext 1 (.c v10)) E0 h fun v12 h =>
 (wi F L (.bin .gtr (.c v12) (.c (.int .i64 0))) E0 h fun v14 h =>
 (∃ v, some v14 = some v ∧ K v h)))))
theorem QDm {L : QL} {K : QK} {a0 a1 : V} {h : Heap} (hp : Qk1 L K a0 a1 h) : Cf F L Qda [a0, a1] h K :=
  wcallp QG8 (of_decide_eq_true (by kernel_rfl)) (p := Qk1 L K a0 a1 h) (by kernel_rfl) hp
def QbY (L : QL) (K : QK) (h : Heap) : Prop :=
 (∃ v, some (.bool false) = some v ∧ K v h)
def Qau (L : QL) (K : QK) (v4 : V) (h : Heap) : Prop :=
 (wb v4
 (∃ v, some (.bool true) = some v ∧ K v h)
 (QbY L K  h))
def QpE (L : QL) (K : QK) (a0 : V) (h : Heap) : Prop :=
 (wi F L (.bin .eql (.c a0) (.c (.int .i64 200))) E0 h fun v5 h =>
 (wb v5
 (Qau L K v5 h)
 (wi F L (.bin .eql (.c a0) (.c (.int .i64 203))) E0 h fun v6 h =>
 (wb v6
 (Qau L K v6 h)
 (wi F L (.bin .eql (.c a0) (.c (.int .i64 204))) E0 h fun v7 h =>
 (wb v7
 (Qau L K v7 h)
 (wi F L (.bin .eql (.c a0) (.c (.int .i64 206))) E0 h fun v8 h =>
 (wb v8
 (Qau L K v8 h)
 (wi F L (.bin .eql (.c a0) (.c (.int .i64 300))) E0 h fun v9 h =>
 (wb v9
 (Qau L K v9 h)
 (wi F L (.bin .eql (.c a0) (.c (.int .i64 301))) E0 h fun v10 h =>
 (wb v10
 (Qau L K v10 h)
 (wi F L (.bin .eql (.c a0) (.c (.int .i64 308))) E0 h fun v11 h =>
 (wb v11
 (Qau L K v11 h)
 (wi F L (.bin .eql (.c a0) (.c (.int .i64 404))) E0 h fun v12 h =>
 (wb v12
 (Qau L K v12 h)
 (wi F L (.bin .eql (.c a0) (.c (.int .i64 405))) E0 h fun v13 h =>
 (wb v13
 (Qau L K v13 h)
 (wi F L (.bin .eql (.c a0) (.c (.int .i64 410))) E0 h fun v14 h =>
 (wb v14
 (Qau L K v14 h)
 (wi F L (.bin .eql (.c a0) (.c (.int .i64 414))) E0 h fun v15 h =>
 (wb v15
 (Qau L K v15 h)
 (wi F L (.bin .eql (.c a0) (.c (.int .i64 501))) E0 h fun v16 h =>
 (Qau L K v16 h))))))))))))))))))))))))
theorem Qzu {L : QL} {K : QK} {a0 : V} {h : Heap} (hp : QpE L K a0 h) : Cf F L Qgj [a0] h K :=
  wcallp QIR (of_decide_eq_true (by kernel_rfl)) (p := QpE L K a0 h) (by kernel_rfl) hp
def QiG (L : QL) (K : QK) (v6 : V) (h : Heap) : Prop :=
 (wi F L (.app 2 32 false (.c .nsl) (.c v6)) E0 h fun v32 h =>
 (∃ v, some v32 = some v ∧ K v h))
def QjG (L : QL) (K : QK) (N0 : QN) (e : Env) (v7 : V) (h : Heap) : Prop :=
 (wi F L (.bin .add (.c v7) (.c (.int .i64 1))) E0 h fun v23 h =>
 (N0 (upd (upd (upd e 22 v7) 23 v23) 7 v23) h))
def Qjv (L : QL) (K : QK) (N0 : QN) (e : Env) (v5 v6 v7 : V) (h : Heap) : Prop :=
 (wi F L (.ixaSl 1 (.c v5) (.c v7)) E0 h fun v27 h =>
 (wi F L (.load false 1 (.c v27)) E0 h fun v28 h =>
 (wi F L (.call Qdq [(.c v6), (.c v28)]) E0 h fun v29 h =>
 (QjG L K N0 (upd (upd (upd (upd (upd (upd (upd e 24 v6) 25 v5) 26 v7) 27 v27) 28 v28) 29 v29) 6 v29) v7 h))))
def Qok (L : QL) (K : QK) : X → Env → Heap → Prop := (fun x => (seqX (fun e h => QiG L K (e 6) h) (Qy Qke.results K)) (X.out 0 x))
def Qk5 : C :=
 (.seq (.seq (.region [⟨(some 18), none, .mv (.t 7)⟩, ⟨(some 19), none, .mv (.t 5)⟩, ⟨(some 20), none, .len 1 (.t 19)⟩, ⟨(some 21), none, .bin .lss (.t 18) (.t 20)⟩])
 (.cond (.t 21)
 .skip
 (.exit 0)))
 (.seq (.block 1 (.region [⟨(some 24), none, .mv (.t 6)⟩, ⟨(some 25), none, .mv (.t 5)⟩, ⟨(some 26), none, .mv (.t 7)⟩, ⟨(some 27), none, .ixaSl 1 (.t 25) (.t 26)⟩, ⟨(some 28), none, .load false 1 (.t 27)⟩, ⟨(some 29), none, .call Qdq [(.t 24), (.t 28)]⟩, ⟨(some 6), none, .mv (.t 29)⟩]))
 (.region [⟨(some 22), none, .mv (.t 7)⟩, ⟨(some 23), none, .bin .add (.t 22) (.c (.int .i64 1))⟩, ⟨(some 7), none, .mv (.t 23)⟩])))
def QnY (L : QL) (K : QK) (N0 : QN) (e : Env) (h : Heap) : Prop :=
 (wi F L (.len 1 (.c (e 5))) E0 h fun v20 h =>
 (wi F L (.bin .lss (.c (e 7)) (.c v20)) E0 h fun v21 h =>
 (wb v21
 (Qjv L K N0 (upd (upd (upd (upd e 18 (e 7)) 19 (e 5)) 20 v20) 21 v21) (e 5) (e 6) (e 7) h)
 (QiG L K (e 6) h))))
theorem QI9 {L : QL} {K : QK} (I : Nat → Env → Heap → Prop) (hr : ∀ n e h, I n e h → QnY L K (fun e' h' => ∃ m, m < n ∧ I m e' h') e h) {n : Nat} {e : Env} {h : Heap} (hi : I n e h) : Wl F L Qk5 (Qok L K) e h :=
  wloopp (b := QnY L K) I (fun _ _ _ => by kernel_rfl) hr hi
def Qnc (L : QL) (K : QK) (a0 : V) (h : Heap) : Prop :=
 (wi F L (.call Qgo [(.c a0), (.c (.str [99, 111, 110, 110, 101, 99, 116, 105, 111, 110]))]) E0 h fun v11 h =>
 (wi F L (.ext 0 (.c v11)) E0 h fun v12 h =>
 (wi F L (.ext 1 (.c v11)) E0 h fun v13 h =>
 (wi F L (.bsl 1 [(.c (.str [99, 111, 110, 110, 101, 99, 116, 105, 111, 110])), (.c (.str [107, 101, 101, 112, 45, 97, 108, 105, 118, 101])), (.c (.str [112, 114, 111, 120, 121, 45, 99, 111, 110, 110, 101, 99, 116, 105, 111, 110])), (.c (.str [116, 101])), (.c (.str [116, 114, 97, 105, 108, 101, 114])), (.c (.str [116, 114, 97, 110, 115, 102, 101, 114, 45, 101, 110, 99, 111, 100, 105, 110, 103])), (.c (.str [117, 112, 103, 114, 97, 100, 101]))]) E0 h fun v14 h =>
 (wi F L (.app 1 16 false (.c v14) (.c v12)) E0 h fun v16 h =>
 (Wl F L Qk5 (Qok L K) (upd (upd (upd (upd (upd (upd (upd (upd (upd (upd (upd (upd (upd (upd (upd (Qd [a0]) 2 .nsl) 10 a0) 11 v11) 9 v11) 12 v12) 13 v13) 3 v12) 4 v13) 14 v14) 15 v12) 16 v16) 5 v16) 17 a0) 6 a0) 7 (.int .i64 0)) h))))))
theorem QFv {L : QL} {K : QK} {a0 : V} {h : Heap} (hp : Qnc L K a0 h) : Cf F L Qgl [a0] h K :=
  wcallp QBv (of_decide_eq_true (by kernel_rfl)) (p := Qnc L K a0 h) (by kernel_rfl) hp
def QgV (L : QL) (K : QK) (v5 : V) (h : Heap) : Prop :=
 (∃ v, some v5 = some v ∧ K v h)
def Qhu (L : QL) (K : QK) (N0 : QN) (e : Env) (v6 : V) (h : Heap) : Prop :=
 (wi F L (.bin .add (.c v6) (.c (.int .i64 1))) E0 h fun v12 h =>
 (N0 (upd (upd (upd e 11 v6) 12 v12) 6 v12) h))
def Qit (L : QL) (K : QK) (N0 : QN) (e : Env) (v0 v1 v5 v6 : V) (h : Heap) : Prop :=
 (wi F L (.ixaSl 2 (.c v0) (.c v6)) E0 h fun v15 h =>
 (wi F L (.faddr 0 (.c v15)) E0 h fun v16 h =>
 (wi F L (.load false 1 (.c v16)) E0 h fun v17 h =>
 (wi F L (.call QdA [(.c v17), (.c v1)]) E0 h fun v19 h =>
 (wi F L (.un .not (.c v19)) E0 h fun v20 h =>
 (wb v20
 (wi F L (.ixaSl 2 (.c v0) (.c v6)) E0 h fun v24 h =>
 (wi F L (.load true 2 (.c v24)) E0 h fun v25 h =>
 (wi F L (.bsl 2 [(.c v25)]) E0 h fun v26 h =>
 (wi F L (.app 2 32 false (.c v5) (.c v26)) E0 h fun v27 h =>
 (Qhu L K N0 (upd (upd (upd (upd (upd (upd (upd (upd (upd (upd (upd (upd (upd (upd (upd (upd e 13 v0) 14 v6) 15 v15) 16 v16) 17 v17) 18 v1) 19 v19) 20 v20) 21 v5) 22 v0) 23 v6) 24 v24) 25 v25) 26 v26) 27 v27) 5 v27) v6 h)))))
 (Qhu L K N0 (upd (upd (upd (upd (upd (upd (upd (upd e 13 v0) 14 v6) 15 v15) 16 v16) 17 v17) 18 v1) 19 v19) 20 v20) v6 h)))))))
def QsZ (L : QL) (K : QK) : X → Env → Heap → Prop := (fun x => (seqX (fun e h => QgV L K (e 5) h) (Qy Qju.results K)) (X.out 0 x))
def Qs9 : C :=
 (.seq (.seq (.region [⟨(some 7), none, .mv (.t 6)⟩, ⟨(some 8), none, .mv (.t 0)⟩, ⟨(some 9), none, .len 1 (.t 8)⟩, ⟨(some 10), none, .bin .lss (.t 7) (.t 9)⟩])
 (.cond (.t 10)
 .skip
 (.exit 0)))
 (.seq (.block 1 (.seq (.region [⟨(some 13), none, .mv (.t 0)⟩, ⟨(some 14), none, .mv (.t 6)⟩, ⟨(some 15), none, .ixaSl 2 (.t 13) (.t 14)⟩, ⟨(some 16), none, .faddr 0 (.t 15)⟩, ⟨(some 17), none, .load false 1 (.t 16)⟩, ⟨(some 18), none, .mv (.t 1)⟩, ⟨(some 19), none, .call QdA [(.t 17), (.t 18)]⟩, ⟨(some 20), none, .un .not (.t 19)⟩])
 (.cond (.t 20)
 (.region [⟨(some 21), none, .mv (.t 5)⟩, ⟨(some 22), none, .mv (.t 0)⟩, ⟨(some 23), none, .mv (.t 6)⟩, ⟨(some 24), none, .ixaSl 2 (.t 22) (.t 23)⟩, ⟨(some 25), none, .load true 2 (.t 24)⟩, ⟨(some 26), none, .bsl 2 [(.t 25)]⟩, ⟨(some 27), none, .app 2 32 false (.t 21) (.t 26)⟩, ⟨(some 5), none, .mv (.t 27)⟩])
 .skip)))
 (.region [⟨(some 11), none, .mv (.t 6)⟩, ⟨(some 12), none, .bin .add (.t 11) (.c (.int .i64 1))⟩, ⟨(some 6), none, .mv (.t 12)⟩])))
def Qq4 (L : QL) (K : QK) (N0 : QN) (e : Env) (h : Heap) : Prop :=
 (wi F L (.len 1 (.c (e 0))) E0 h fun v9 h =>
 (wi F L (.bin .lss (.c (e 6)) (.c v9)) E0 h fun v10 h =>
 (wb v10
 (Qit L K N0 (upd (upd (upd (upd e 7 (e 6)) 8 (e 0)) 9 v9) 10 v10) (e 0) (e 1) (e 5) (e 6) h)
 (QgV L K (e 5) h))))
theorem QD2 {L : QL} {K : QK} (I : Nat → Env → Heap → Prop) (hr : ∀ n e h, I n e h → Qq4 L K (fun e' h' => ∃ m, m < n ∧ I m e' h') e h) {n : Nat} {e : Env} {h : Heap} (hi : I n e h) : Wl F L Qs9 (QsZ L K) e h :=
  wloopp (b := Qq4 L K) I (fun _ _ _ => by kernel_rfl) hr hi
def QpS (L : QL) (K : QK) (a0 a1 : V) (h : Heap) : Prop :=
 (Wl F L Qs9 (QsZ L K) (upd (upd (upd (Qd [a0, a1]) 4 .nsl) 5 .nsl) 6 (.int .i64 0)) h)
theorem QEY {L : QL} {K : QK} {a0 a1 : V} {h : Heap} (hp : QpS L K a0 a1 h) : Cf F L Qdq [a0, a1] h K :=
  wcallp QCf (of_decide_eq_true (by kernel_rfl)) (p := QpS L K a0 a1 h) (by kernel_rfl) hp
def QcM (L : QL) (K : QK) (v10 : V) (h : Heap) : Prop :=
 (∃ v, Qa h (Qd [v10, (.bool true)]) [.tmp 0, .tmp 1] = some v ∧ K v h)
def Qca (L : QL) (K : QK) (v9 v10 : V) (h : Heap) : Prop :=
 (wi F L (.un .not (.c v9)) E0 h fun v42 h =>
 (wb v42
 (∃ v, Qa h (Qd [.nsl, (.bool false)]) [.tmp 0, .tmp 1] = some v ∧ K v h)
 (QcM L K v10 h)))
def QcA (L : QL) (K : QK) (N0 : QN) (e : Env) (v26 : V) (h : Heap) : Prop :=
 (wi F L (.bin .add (.c v26) (.c (.int .i64 1))) E0 h fun v40 h =>
 (N0 (upd (upd e 40 v40) 26 v40) h))
def QcB (L : QL) (K : QK) (N0 : QN) (e : Env) (v9 v10 v24 v26 : V) (h : Heap) : Prop :=
 (wi F L (.ixaSl 1 (.c v24) (.c v26)) E0 h fun v28 h =>
 (wi F L (.load false 1 (.c v28)) E0 h fun v29 h =>
 (wg v9 true (wi F L (.mv (.c v29)) E0 h) h fun v32 h =>
 (wg v9 true (wi F L (.call Qdp [(.c v32)]) E0 h) h fun v33 h =>
 (wi F L (.pick (.c v9) (.c v33) (.c (.bool false))) E0 h fun v34 h =>
 (wi F L (.call Qbn [(.c v29)]) E0 h fun v37 h =>
 (wi F L (.bsl 1 [(.c v37)]) E0 h fun v38 h =>
 (wi F L (.app 1 16 false (.c v10) (.c v38)) E0 h fun v39 h =>
 (QcA L K N0 (upd (upd (upd (upd (upd (upd (upd (upd (upd (upd (upd (upd (upd (upd (upd e 28 v28) 29 v29) 12 v29) 30 v9) 31 v9) 32 v32) 33 v33) 34 v34) 9 v34) 35 v10) 36 v29) 37 v37) 38 v38) 39 v39) 10 v39) v26 h)))))))))
def QkY (L : QL) (K : QK) : X → Env → Heap → Prop := (fun x => (seqX (fun e h => Qca L K (e 9) (e 10) h) (Qy QjA.results K)) (X.out 0 x))
def Qlo : C :=
 (.seq (.region [⟨(some 27), none, .bin .lss (.t 26) (.t 25)⟩])
 (.seq (.cond (.t 27)
 .skip
 (.exit 0))
 (.seq (.block 1 (.seq (.region [⟨(some 28), none, .ixaSl 1 (.t 24) (.t 26)⟩, ⟨(some 29), none, .load false 1 (.t 28)⟩, ⟨(some 12), none, .mv (.t 29)⟩])
 (.seq (.region [⟨(some 30), none, .mv (.t 9)⟩, ⟨(some 31), none, .mv (.t 30)⟩, ⟨(some 32), (some (31, true)), .mv (.t 12)⟩, ⟨(some 33), (some (31, true)), .call Qdp [(.t 32)]⟩, ⟨(some 34), none, .pick (.t 31) (.t 33) (.c (.bool false))⟩, ⟨(some 9), none, .mv (.t 34)⟩])
 (.region [⟨(some 35), none, .mv (.t 10)⟩, ⟨(some 36), none, .mv (.t 12)⟩, ⟨(some 37), none, .call Qbn [(.t 36)]⟩, ⟨(some 38), none, .bsl 1 [(.t 37)]⟩, ⟨(some 39), none, .app 1 16 false (.t 35) (.t 38)⟩, ⟨(some 10), none, .mv (.t 39)⟩]))))
 (.region [⟨(some 40), none, .bin .add (.t 26) (.c (.int .i64 1))⟩, ⟨(some 26), none, .mv (.t 40)⟩]))))
def QiQ (L : QL) (K : QK) (N0 : QN) (e : Env) (h : Heap) : Prop :=
 (wi F L (.bin .lss (.c (e 26)) (.c (e 25))) E0 h fun v27 h =>
 (wb v27
 (QcB L K N0 (upd e 27 v27) (e 9) (e 10) (e 24) (e 26) h)
 (Qca L K (e 9) (e 10) h)))
theorem QvS {L : QL} {K : QK} (I : Nat → Env → Heap → Prop) (hr : ∀ n e h, I n e h → QiQ L K (fun e' h' => ∃ m, m < n ∧ I m e' h') e h) {n : Nat} {e : Env} {h : Heap} (hi : I n e h) : Wl F L Qlo (QkY L K) e h :=
  wloopp (b := QiQ L K) I (fun _ _ _ => by kernel_rfl) hr hi
def QnZ (L : QL) (K : QK) (a0 a1 : V) (h : Heap) : Prop :=
 (wi F L (.call Qb9 [(.c a0), (.c a1)]) E0 h fun v16 h =>
 (wi F L (.ext 0 (.c v16)) E0 h fun v17 h =>
 (wi F L (.ext 1 (.c v16)) E0 h fun v18 h =>
 (wi F L (.call Qc0 [(.c v17)]) E0 h fun v21 h =>
 (wi F L (.ext 0 (.c v21)) E0 h fun v22 h =>
 (wi F L (.ext 1 (.c v21)) E0 h fun v23 h =>
 (wi F L (.len 1 (.c v22)) E0 h fun v25 h =>
 (Wl F L Qlo (QkY L K) (upd (upd (upd (upd (upd (upd (upd (upd (upd (upd (upd (upd (upd (upd (upd (upd (upd (upd (upd (upd (upd (Qd [a0, a1]) 4 .nsl) 5 (.bool false)) 14 a0) 15 a1) 16 v16) 13 v16) 17 v17) 18 v18) 6 v17) 7 v18) 20 v17) 21 v21) 19 v21) 22 v22) 23 v23) 8 v22) 9 v23) 10 .nsl) 24 v22) 25 v25) 26 (.int .i64 0)) h))))))))
theorem QHu {L : QL} {K : QK} {a0 a1 : V} {h : Heap} (hp : QnZ L K a0 a1 h) : Cf F L QgE [a0, a1] h K :=
  wcallp QB9 (of_decide_eq_true (by kernel_rfl)) (p := QnZ L K a0 a1 h) (by kernel_rfl) hp
def QgN (L : QL) (K : QK) (v0 v5 : V) (h : Heap) : Prop :=
 (wi F L (.mkfn QfQ [(.c v5)]) E0 h fun v20 h =>
 (wi F L (.call Qf6 [(.c v0), (.c v20)]) E0 h fun v21 h =>
 (∃ v, some v21 = some v ∧ K v h)))
def QhR (L : QL) (K : QK) (N0 : QN) (e : Env) (v11 : V) (h : Heap) : Prop :=
 (wi F L (.bin .add (.c v11) (.c (.int .i64 1))) E0 h fun v18 h =>
 (N0 (upd (upd e 18 v18) 11 v18) h))
def Qh6 (L : QL) (K : QK) (N0 : QN) (e : Env) (v5 v9 v11 : V) (h : Heap) : Prop :=
 (wi F L (.ixaSl 1 (.c v9) (.c v11)) E0 h fun v13 h =>
 (wi F L (.load false 1 (.c v13)) E0 h fun v14 h =>
 (wi F L (.load false 1 (.c v5)) E0 h fun v15 h' => Ext h h' ∧
 (wi F L (.call Qbn [(.c v14)]) E0 h' fun v17 h => Ext h' h ∧
 (wi F L (.mapset .s (.c v15) (.c v17) (.c (.bool true))) E0 h fun _ h =>
 (QhR L K N0 (upd (upd (upd (upd (upd (upd e 13 v13) 14 v14) 7 v14) 15 v15) 16 v14) 17 v17) v11 h))))))
def QvJ (L : QL) (K : QK) : X → Env → Heap → Prop := (fun x => (seqX (fun e h => QgN L K (e 0) (e 5) h) (Qy QjS.results K)) (X.out 0 x))
def QtK : C :=
 (.seq (.region [⟨(some 12), none, .bin .lss (.t 11) (.t 10)⟩])
 (.seq (.cond (.t 12)
 .skip
 (.exit 0))
 (.seq (.block 1 (.seq (.region [⟨(some 13), none, .ixaSl 1 (.t 9) (.t 11)⟩, ⟨(some 14), none, .load false 1 (.t 13)⟩, ⟨(some 7), none, .mv (.t 14)⟩])
 (.dregion [⟨(some 15), none, .load false 1 (.t 5)⟩, ⟨(some 16), none, .mv (.t 7)⟩, ⟨(some 17), none, .call Qbn [(.t 16)]⟩] [⟨none, none, .mapset .s (.t 15) (.t 17) (.c (.bool true))⟩])))
 (.region [⟨(some 18), none, .bin .add (.t 11) (.c (.int .i64 1))⟩, ⟨(some 11), none, .mv (.t 18)⟩]))))
def QpC (L : QL) (K : QK) (N0 : QN) (e : Env) (h : Heap) : Prop :=
 (wi F L (.bin .lss (.c (e 11)) (.c (e 10))) E0 h fun v12 h =>
 (wb v12
 (Qh6 L K N0 (upd e 12 v12) (e 5) (e 9) (e 11) h)
 (QgN L K (e 0) (e 5) h)))
theorem QyB {L : QL} {K : QK} (I : Nat → Env → Heap → Prop) (hr : ∀ n e h, I n e h → QpC L K (fun e' h' => ∃ m, m < n ∧ I m e' h') e h) {n : Nat} {e : Env} {h : Heap} (hi : I n e h) : Wl F L QtK (QvJ L K) e h :=
  wloopp (b := QpC L K) I (fun _ _ _ => by kernel_rfl) hr hi
def QmK (L : QL) (K : QK) (a0 a1 : V) (h : Heap) : Prop :=
 (wi F L (.mkmap) E0 h fun v8 h =>
 (wi F L (.boxz [.nmap]) E0 h fun v5 h =>
 (wi F L (.store 1 (.c v5) (.c v8)) E0 h fun _ h =>
 (wi F L (.len 1 (.c a1)) E0 h fun v10 h =>
 (Wl F L QtK (QvJ L K) (upd (upd (upd (upd (upd (upd (Qd [a0, a1]) 4 .nsl) 8 v8) 5 v5) 9 a1) 10 v10) 11 (.int .i64 0)) h)))))
theorem Qwr {L : QL} {K : QK} {a0 a1 : V} {h : Heap} (hp : QmK L K a0 a1 h) : Cf F L QdN [a0, a1] h K :=
  wcallp QBU (of_decide_eq_true (by kernel_rfl)) (p := QmK L K a0 a1 h) (by kernel_rfl) hp
def QoO (L : QL) (K : QK) (a0 a1 : V) (h : Heap) : Prop :=
 (wi F L (.call Qgy [(.c a0), (.c a1)]) E0 h fun v7 h =>
 (wi F L (.bin .geq (.c v7) (.c (.int .i64 0))) E0 h fun v8 h =>
 (∃ v, some v8 = some v ∧ K v h)))
theorem QAy {L : QL} {K : QK} {a0 a1 : V} {h : Heap} (hp : QoO L K a0 a1 h) : Cf F L Qg2 [a0, a1] h K :=
  wcallp QHY (of_decide_eq_true (by kernel_rfl)) (p := QoO L K a0 a1 h) (by kernel_rfl) hp
def Qk7 (L : QL) (K : QK) (a0 a1 : V) (h : Heap) : Prop :=
 (wi F L (.box (.c a0)) E0 h fun v2 h =>
 (wi F L (.faddr 0 (.c v2)) E0 h fun v4 h =>
 (wi F L (.load false 1 (.c v4)) E0 h fun v5 h =>
 (wi F L (.load false 1 (.c a1)) E0 h fun v6 h =>
 (wi F L (.call QdC [(.c v5), (.c v6)]) E0 h fun v7 h =>
 (∃ v, some v7 = some v ∧ K v h))))))
theorem QDh {L : QL} {K : QK} {a0 a1 : V} {h : Heap} (hp : Qk7 L K a0 a1 h) : Cf F L Qgd [a0, a1] h K :=
  wcallp Qyd (of_decide_eq_true (by kernel_rfl)) (p := Qk7 L K a0 a1 h) (by kernel_rfl) hp
def QnI (L : QL) (K : QK) (v2 v4 : V) (h : Heap) : Prop :=
 (wi F L (.load true 13 (.c v4)) E0 h fun v83 h =>
 (wi F L (.store 13 (.c v2) (.c v83)) E0 h fun _ h =>
 (∃ v, Qa h (Qd [v2, (.bool true)]) [.cell 0 true 13, .tmp 1] = some v ∧ K v h)))
def QcL (L : QL) (K : QK) (N0 : QN) (e : Env) (v31 : V) (h : Heap) : Prop :=
 (wi F L (.bin .add (.c v31) (.c (.int .i64 1))) E0 h fun v82 h =>
 (N0 (upd (upd e 82 v82) 31 v82) h))
def Qt1 (L : QL) (K : QK) (N0 : QN) (e : Env) (v7 v14 v31 v33 v34 v37 v38 v39 v40 v41 v44 v45 v47 v48 v49 v54 v55 v56 v57 v58 v59 v60 v63 : V) (h : Heap) : Prop :=
 (wi F L (.bin .neq (.c v63) (.c (.int .i64 (-1)))) E0 h fun v65 h =>
 (wg v65 true (wi F L (.mv (.c v59)) E0 h) h fun v67 h =>
 (wg v65 true (wi F L (.nilck (.c v67)) E0 h) h fun v68 h =>
 (wg v65 true (wi F L (.load false 1 (.c v68)) E0 h) h fun v69 h =>
 (wg v65 true (wi F L (.bin .eql (.c v69) (.c (.int .i64 (-1)))) E0 h) h fun v70 h =>
 (wg v65 true (wi F L (.mv (.c v70)) E0 h) h fun v71 h =>
 (wg v71 false (wi F L (.mv (.c v63)) E0 h) h fun v72 h =>
 (wg v71 false (wi F L (.mv (.c v59)) E0 h) h fun v73 h =>
 (wg v71 false (wi F L (.nilck (.c v73)) E0 h) h fun v74 h =>
 (wg v71 false (wi F L (.load false 1 (.c v74)) E0 h) h fun v75 h =>
 (wg v71 false (wi F L (.bin .lss (.c v72) (.c v75)) E0 h) h fun v76 h =>
 (wg v65 true (wi F L (.pick (.c v71) (.c (.bool true)) (.c v76)) E0 h) h fun v77 h =>
 (wi F L (.pick (.c v65) (.c v77) (.c (.bool false))) E0 h fun v78 h =>
 (wb v78
 (wi F L (.nilck (.c v59)) E0 h fun v81 h =>
 (wi F L (.store 1 (.c v81) (.c v63)) E0 h fun _ h =>
 (QcL L K N0 (upd (upd (upd (upd (upd (upd (upd (upd (upd (upd (upd (upd (upd (upd (upd (upd (upd (upd (upd (upd (upd (upd (upd (upd (upd (upd (upd (upd (upd (upd (upd (upd (upd (upd (upd (upd (upd (upd (upd (upd (upd (upd (upd (upd (upd (upd (upd (upd (upd (upd (upd (upd (upd (upd e 33 v33) 34 v34) 9 v34) 36 v34) 37 v37) 35 v37) 38 v38) 39 v39) 40 v40) 41 v41) 10 v38) 11 v39) 12 v40) 13 v41) 42 v7) 43 v38) 44 v44) 45 v45) 14 v14) 47 v47) 48 v48) 49 v49) 46 v49) 54 v54) 55 v55) 56 v56) 53 v56) 57 v57) 58 v58) 59 v59) 60 v60) 61 v39) 62 v40) 63 v63) 15 v59) 16 v63) 64 v63) 65 v65) 66 v65) 67 v67) 68 v68) 69 v69) 70 v70) 71 v71) 72 v72) 73 v73) 74 v74) 75 v75) 76 v76) 77 v77) 78 v78) 79 v59) 80 v63) 81 v81) v31 h)))
 (QcL L K N0 (upd (upd (upd (upd (upd (upd (upd (upd (upd (upd (upd (upd (upd (upd (upd (upd (upd (upd (upd (upd (upd (upd (upd (upd (upd (upd (upd (upd (upd (upd (upd (upd (upd (upd (upd (upd (upd (upd (upd (upd (upd (upd (upd (upd (upd (upd (upd (upd (upd (upd (upd e 33 v33) 34 v34) 9 v34) 36 v34) 37 v37) 35 v37) 38 v38) 39 v39) 40 v40) 41 v41) 10 v38) 11 v39) 12 v40) 13 v41) 42 v7) 43 v38) 44 v44) 45 v45) 14 v14) 47 v47) 48 v48) 49 v49) 46 v49) 54 v54) 55 v55) 56 v56) 53 v56) 57 v57) 58 v58) 59 v59) 60 v60) 61 v39) 62 v40) 63 v63) 15 v59) 16 v63) 64 v63) 65 v65) 66 v65) 67 v67) 68 v68) 69 v69) 70 v70) 71 v71) 72 v72) 73 v73) 74 v74) 75 v75) 76 v76) 77 v77) 78 v78) v31 h)))))))))))))))
def Qm0 (L : QL) (K : QK) (N0 : QN) (e : Env) (v4 v7 v31 v33 v34 v37 v38 v39 v40 v41 v44 v45 : V) (h : Heap) : Prop :=
 (wi F L (.boxz [.nfn, .nfn, (.int .i64 0), (.int .i64 0)]) E0 h fun v14 h =>
 (wi F L (.store 4 (.c v14) (.c v45)) E0 h fun _ h =>
 (wi F L (.faddr 0 (.c v14)) E0 h fun v47 h =>
 (wi F L (.load false 1 (.c v47)) E0 h fun v48 h =>
 (wi F L (.eq (.nil 2) true (.c v48) (.c .nfn)) E0 h fun v49 h =>
 (wb v49
 (wi F L (.faddr 0 (.c v14)) E0 h fun v50 h =>
 (wi F L (.load false 1 (.c v50)) E0 h fun v51 h =>
 (wi F L (.callv (.c v51) [(.c v4)]) E0 h fun v52 h =>
 (QcL L K N0 (upd (upd (upd (upd (upd (upd (upd (upd (upd (upd (upd (upd (upd (upd (upd (upd (upd (upd (upd (upd (upd (upd (upd (upd (upd (upd e 33 v33) 34 v34) 9 v34) 36 v34) 37 v37) 35 v37) 38 v38) 39 v39) 40 v40) 41 v41) 10 v38) 11 v39) 12 v40) 13 v41) 42 v7) 43 v38) 44 v44) 45 v45) 14 v14) 47 v47) 48 v48) 49 v49) 46 v49) 50 v50) 51 v51) 52 v52) v31 h))))
 (wi F L (.faddr 1 (.c v14)) E0 h fun v54 h =>
 (wi F L (.load false 1 (.c v54)) E0 h fun v55 h =>
 (wi F L (.eq (.nil 2) true (.c v55) (.c .nfn)) E0 h fun v56 h =>
 (wb v56
 (wi F L (.faddr 1 (.c v14)) E0 h fun v57 h' => Ext h h' ∧
 (wi F L (.load false 1 (.c v57)) E0 h' fun v58 h => Ext h' h ∧
 (wi F L (.callv (.c v58) [(.c v4)]) E0 h fun v59 h' => Ext h h' ∧
 (wi F L (.load true 4 (.c v14)) E0 h' fun v60 h => Ext h' h ∧
 (wi F L (.call QeR [(.c v60), (.c v39), (.c v40)]) E0 h fun v63 h =>
 (Qt1 L K N0 e v7 v14 v31 v33 v34 v37 v38 v39 v40 v41 v44 v45 v47 v48 v49 v54 v55 v56 v57 v58 v59 v60 v63 h))))))
 (QcL L K N0 (upd (upd (upd (upd (upd (upd (upd (upd (upd (upd (upd (upd (upd (upd (upd (upd (upd (upd (upd (upd (upd (upd (upd (upd (upd (upd (upd e 33 v33) 34 v34) 9 v34) 36 v34) 37 v37) 35 v37) 38 v38) 39 v39) 40 v40) 41 v41) 10 v38) 11 v39) 12 v40) 13 v41) 42 v7) 43 v38) 44 v44) 45 v45) 14 v14) 47 v47) 48 v48) 49 v49) 46 v49) 54 v54) 55 v55) 56 v56) 53 v56) v31 h)))))))))))
def QsO (L : QL) (K : QK) (N0 : QN) (e : Env) (v4 v7 v31 v33 v34 v37 : V) (h : Heap) : Prop :=
 (wi F L (.ext 0 (.c v37)) E0 h fun v38 h =>
 (wi F L (.ext 1 (.c v37)) E0 h fun v39 h =>
 (wi F L (.ext 2 (.c v37)) E0 h fun v40 h =>
 (wi F L (.ext 3 (.c v37)) E0 h fun v41 h =>
 (wi F L (.call Qbn [(.c v38)]) E0 h fun v44 h =>
 (wi F L (.lookup .s (.agg [.nfn, .nfn, (.int .i64 0), (.int .i64 0)]) false (.c v7) (.c v44)) E0 h fun v45 h =>
 (Qm0 L K N0 e v4 v7 v31 v33 v34 v37 v38 v39 v40 v41 v44 v45 h)))))))
def Qu3 (L : QL) (K : QK) (N0 : QN) (e : Env) (v4 v7 v29 v31 : V) (h : Heap) : Prop :=
 (wi F L (.ixaSl 1 (.c v29) (.c v31)) E0 h fun v33 h =>
 (wi F L (.load false 1 (.c v33)) E0 h fun v34 h =>
 (wi F L (.call QeE [(.c v34)]) E0 h fun v37 h =>
 (QsO L K N0 e v4 v7 v31 v33 v34 v37 h))))
def QlJ (L : QL) (K : QK) : X → Env → Heap → Prop := (fun x => (seqX (fun e h => QnI L K (e 2) (e 4) h) (Qy QkA.results K)) (X.out 0 x))
def QkU : C :=
 (.seq (.region [⟨(some 32), none, .bin .lss (.t 31) (.t 30)⟩])
 (.seq (.cond (.t 32)
 .skip
 (.exit 0))
 (.seq (.block 1 (.seq (.region [⟨(some 33), none, .ixaSl 1 (.t 29) (.t 31)⟩, ⟨(some 34), none, .load false 1 (.t 33)⟩, ⟨(some 9), none, .mv (.t 34)⟩])
 (.seq (.region [⟨(some 36), none, .mv (.t 9)⟩, ⟨(some 37), none, .call QeE [(.t 36)]⟩, ⟨(some 35), none, .mv (.t 37)⟩, ⟨(some 38), none, .ext 0 (.t 35)⟩, ⟨(some 39), none, .ext 1 (.t 35)⟩, ⟨(some 40), none, .ext 2 (.t 35)⟩, ⟨(some 41), none, .ext 3 (.t 35)⟩, ⟨(some 10), none, .mv (.t 38)⟩, ⟨(some 11), none, .mv (.t 39)⟩, ⟨(some 12), none, .mv (.t 40)⟩, ⟨(some 13), none, .mv (.t 41)⟩])
 (.seq (.region [⟨(some 42), none, .mv (.t 7)⟩, ⟨(some 43), none, .mv (.t 10)⟩, ⟨(some 44), none, .call Qbn [(.t 43)]⟩, ⟨(some 45), none, .lookup .s (.agg [.nfn, .nfn, (.int .i64 0), (.int .i64 0)]) false (.t 42) (.t 44)⟩, ⟨(some 14), none, .boxz [.nfn, .nfn, (.int .i64 0), (.int .i64 0)]⟩, ⟨none, none, .store 4 (.t 14) (.t 45)⟩])
 (.block 2 (.seq (.region [⟨(some 47), none, .faddr 0 (.t 14)⟩, ⟨(some 48), none, .load false 1 (.t 47)⟩, ⟨(some 49), none, .eq (.nil 2) true (.t 48) (.c .nfn)⟩, ⟨(some 46), none, .mv (.t 49)⟩])
 (.cond (.t 46)
 (.region [⟨(some 50), none, .faddr 0 (.t 14)⟩, ⟨(some 51), none, .load false 1 (.t 50)⟩, ⟨(some 52), none, .callv (.t 51) [(.t 4)]⟩])
 (.seq (.region [⟨(some 54), none, .faddr 1 (.t 14)⟩, ⟨(some 55), none, .load false 1 (.t 54)⟩, ⟨(some 56), none, .eq (.nil 2) true (.t 55) (.c .nfn)⟩, ⟨(some 53), none, .mv (.t 56)⟩])
 (.cond (.t 53)
 (.seq (.dregion [⟨(some 57), none, .faddr 1 (.t 14)⟩, ⟨(some 58), none, .load false 1 (.t 57)⟩, ⟨(some 59), none, .callv (.t 58) [(.t 4)]⟩, ⟨(some 60), none, .load true 4 (.t 14)⟩, ⟨(some 61), none, .mv (.t 11)⟩, ⟨(some 62), none, .mv (.t 12)⟩] [⟨(some 63), none, .call QeR [(.t 60), (.t 61), (.t 62)]⟩, ⟨(some 15), none, .mv (.t 59)⟩, ⟨(some 16), none, .mv (.t 63)⟩])
 (.seq (.region [⟨(some 64), none, .mv (.t 16)⟩, ⟨(some 65), none, .bin .neq (.t 64) (.c (.int .i64 (-1)))⟩, ⟨(some 66), none, .mv (.t 65)⟩, ⟨(some 67), (some (66, true)), .mv (.t 15)⟩, ⟨(some 68), (some (66, true)), .nilck (.t 67)⟩, ⟨(some 69), (some (66, true)), .load false 1 (.t 68)⟩, ⟨(some 70), (some (66, true)), .bin .eql (.t 69) (.c (.int .i64 (-1)))⟩, ⟨(some 71), (some (66, true)), .mv (.t 70)⟩, ⟨(some 72), (some (71, false)), .mv (.t 16)⟩, ⟨(some 73), (some (71, false)), .mv (.t 15)⟩, ⟨(some 74), (some (71, false)), .nilck (.t 73)⟩, ⟨(some 75), (some (71, false)), .load false 1 (.t 74)⟩, ⟨(some 76), (some (71, false)), .bin .lss (.t 72) (.t 75)⟩, ⟨(some 77), (some (66, true)), .pick (.t 71) (.c (.bool true)) (.t 76)⟩, ⟨(some 78), none, .pick (.t 66) (.t 77) (.c (.bool false))⟩])
 (.cond (.t 78)
 (.region [⟨(some 79), none, .mv (.t 15)⟩, ⟨(some 80), none, .mv (.t 16)⟩, ⟨(some 81), none, .nilck (.t 79)⟩, ⟨none, none, .store 1 (.t 81) (.t 80)⟩])
 .skip)))
 .skip)))))))))
 (.region [⟨(some 82), none, .bin .add (.t 31) (.c (.int .i64 1))⟩, ⟨(some 31), none, .mv (.t 82)⟩]))))
def Qj1 (L : QL) (K : QK) (N0 : QN) (e : Env) (h : Heap) : Prop :=
 (wi F L (.bin .lss (.c (e 31)) (.c (e 30))) E0 h fun v32 h =>
 (wb v32
 (Qu3 L K N0 (upd e 32 v32) (e 4) (e 7) (e 29) (e 31) h)
 (QnI L K (e 2) (e 4) h)))
theorem QEN {L : QL} {K : QK} (I : Nat → Env → Heap → Prop) (hr : ∀ n e h, I n e h → Qj1 L K (fun e' h' => ∃ m, m < n ∧ I m e' h') e h) {n : Nat} {e : Env} {h : Heap} (hi : I n e h) : Wl F L QkU (QlJ L K) e h :=
  wloopp (b := Qj1 L K) I (fun _ _ _ => by kernel_rfl) hr hi
def Quu (L : QL) (K : QK) (e : Env) (v5 : V) (h : Heap) : Prop :=
 (wi F L (.call QfO []) E0 h fun v28 h =>
 (wi F L (.len 1 (.c v5)) E0 h fun v30 h =>
 (Wl F L QkU (QlJ L K) (upd (upd (upd (upd (upd e 28 v28) 7 v28) 29 v5) 30 v30) 31 (.int .i64 0)) h)))
def QsU (L : QL) (K : QK) (a0 v2 v4 v17 v20 : V) (h : Heap) : Prop :=
 (wi F L (.ext 0 (.c v20)) E0 h fun v21 h =>
 (wi F L (.ext 1 (.c v20)) E0 h fun v22 h =>
 (wi F L (.un .not (.c v22)) E0 h fun v24 h =>
 (wb v24
 (wi F L (.faddr 0 (.c v4)) E0 h fun v25 h =>
 (wi F L (.store 1 (.c v25) (.c (.bool true))) E0 h fun _ h =>
 (wi F L (.faddr 1 (.c v4)) E0 h fun v26 h =>
 (wi F L (.store 1 (.c v26) (.c (.bool true))) E0 h fun _ h =>
 (wi F L (.load true 13 (.c v4)) E0 h fun v27 h =>
 (wi F L (.store 13 (.c v2) (.c v27)) E0 h fun _ h =>
 (∃ v, Qa h (Qd [v2, (.bool false)]) [.cell 0 true 13, .tmp 1] = some v ∧ K v h)))))))
 (Quu L K (upd (upd (upd (upd (upd (upd (upd (upd (upd (upd (upd (upd (upd (Qd [a0]) 2 v2) 3 (.bool false)) 17 v17) 4 v4) 19 a0) 20 v20) 18 v20) 21 v21) 22 v22) 5 v21) 6 v22) 23 v22) 24 v24) v21 h)))))
def Qm5 (L : QL) (K : QK) (a0 : V) (h : Heap) : Prop :=
 (wi F L (.boxz [(.bool false), (.bool false), (.bool false), (.bool false), (.bool false), (.bool false), (.bool false), (.int .i64 0), (.int .i64 0), (.int .i64 0), (.int .i64 0), (.int .i64 0), (.int .i64 0)]) E0 h fun v2 h =>
 (wi F L (.call QeN []) E0 h fun v17 h =>
 (wi F L (.boxz [(.bool false), (.bool false), (.bool false), (.bool false), (.bool false), (.bool false), (.bool false), (.int .i64 0), (.int .i64 0), (.int .i64 0), (.int .i64 0), (.int .i64 0), (.int .i64 0)]) E0 h fun v4 h =>
 (wi F L (.store 13 (.c v4) (.c v17)) E0 h fun _ h =>
 (wi F L (.call Qc0 [(.c a0)]) E0 h fun v20 h =>
 (QsU L K a0 v2 v4 v17 v20 h))))))
theorem Qy4 {L : QL} {K : QK} {a0 : V} {h : Heap} (hp : Qm5 L K a0 h) : Cf F L Qf7 [a0] h K :=
  wcallp QGN (of_decide_eq_true (by kernel_rfl)) (p := Qm5 L K a0 h) (by kernel_rfl) hp
def Ql5 (L : QL) (K : QK) (h : Heap) : Prop :=
 (wi F L (.boxz [(.bool false), (.bool false), (.bool false), (.bool false), (.bool false), (.bool false), (.bool false), (.int .i64 0), (.int .i64 0), (.int .i64 0), (.int .i64 0), (.int .i64 0), (.int .i64 0)]) E0 h fun v0 h =>
 (wi F L (.build [(.bool false), (.bool false), (.bool false), (.bool false), (.bool false), (.bool false), (.bool false), (.int .i64 0), (.int .i64 0), (.int .i64 0), (.int .i64 0), (.int .i64 0), (.int .i64 0)] [(7, 1, (.c (.int .i64 (-1)))), (8, 1, (.c (.int .i64 (-1)))), (9, 1, (.c (.int .i64 (-1)))), (10, 1, (.c (.int .i64 (-1)))), (11, 1, (.c (.int .i64 (-1)))), (12, 1, (.c (.int .i64 (-1))))]) E0 h fun v1 h =>
 (wi F L (.store 13 (.c v0) (.c v1)) E0 h fun _ h =>
 (∃ v, Qa h (Qd [v0]) [.cell 0 true 13] = some v ∧ K v h))))
theorem QFA {L : QL} {K : QK} {h : Heap} (hp : Ql5 L K  h) : Cf F L QeN [] h K :=
  wcallp QFy (of_decide_eq_true (by kernel_rfl)) (p := Ql5 L K  h) (by kernel_rfl) hp
def Qn4 (L : QL) (K : QK) (a0 a1 : V) (h : Heap) : Prop :=
 (wi F L (.call Qgq [(.c a0), (.c a1)]) E0 h fun v7 h =>
 (wi F L (.bin .geq (.c v7) (.c (.int .i64 0))) E0 h fun v8 h =>
 (∃ v, some v8 = some v ∧ K v h)))
theorem Qxc {L : QL} {K : QK} {a0 a1 : V} {h : Heap} (hp : Qn4 L K a0 a1 h) : Cf F L Qfd [a0, a1] h K :=
  wcallp QA2 (of_decide_eq_true (by kernel_rfl)) (p := Qn4 L K a0 a1 h) (by kernel_rfl) hp
def Qcv (L : QL) (K : QK) (h : Heap) : Prop :=
 (∃ v, Qa h (Qd [(.int .i64 0), (.bool false)]) [.tmp 0, .tmp 1] = some v ∧ K v h)
def QcC (L : QL) (K : QK) (N0 : QN) (e : Env) (v9 : V) (h : Heap) : Prop :=
 (wi F L (.bin .add (.c v9) (.c (.int .i64 1))) E0 h fun v22 h =>
 (N0 (upd (upd e 22 v22) 9 v22) h))
def QcF (L : QL) (K : QK) (N0 : QN) (e : Env) (v0 v8 v9 : V) (h : Heap) : Prop :=
 (wi F L (.ixArr 3 1 false (.c v8) (.c v9)) E0 h fun v11 h =>
 (wi F L (.build [(.str []), (.bool false)] [(0, 1, (.c v0)), (1, 1, (.c (.bool true)))]) E0 h fun v15 h =>
 (wi F L (.box (.c v15)) E0 h fun v16 h =>
 (wi F L (.callv (.c v11) [(.c v16)]) E0 h fun v17 h =>
 (wi F L (.ext 0 (.c v17)) E0 h fun v18 h =>
 (wi F L (.ext 1 (.c v17)) E0 h fun v19 h =>
 (wb v19
 (∃ v, Qa h (Qd [v18, (.bool true)]) [.tmp 0, .tmp 1] = some v ∧ K v h)
 (QcC L K N0 (upd (upd (upd (upd (upd (upd (upd (upd (upd (upd (upd (upd (upd e 11 v11) 5 v11) 13 v11) 14 v0) 15 v15) 16 v16) 17 v17) 12 v17) 18 v18) 19 v19) 6 v18) 7 v19) 20 v19) v9 h))))))))
def Qrl (L : QL) (K : QK) : X → Env → Heap → Prop := (fun x => (seqX (fun e h => Qcv L K  h) (Qy Qjn.results K)) (X.out 0 x))
def QvX : C :=
 (.seq (.region [⟨(some 10), none, .bin .lss (.t 9) (.c (.int .i64 3))⟩])
 (.seq (.cond (.t 10)
 .skip
 (.exit 0))
 (.seq (.block 1 (.seq (.region [⟨(some 11), none, .ixArr 3 1 false (.t 8) (.t 9)⟩, ⟨(some 5), none, .mv (.t 11)⟩])
 (.seq (.region [⟨(some 13), none, .mv (.t 5)⟩, ⟨(some 14), none, .mv (.t 0)⟩, ⟨(some 15), none, .build [(.str []), (.bool false)] [(0, 1, (.t 14)), (1, 1, (.c (.bool true)))]⟩, ⟨(some 16), none, .box (.t 15)⟩, ⟨(some 17), none, .callv (.t 13) [(.t 16)]⟩, ⟨(some 12), none, .mv (.t 17)⟩, ⟨(some 18), none, .ext 0 (.t 12)⟩, ⟨(some 19), none, .ext 1 (.t 12)⟩, ⟨(some 6), none, .mv (.t 18)⟩, ⟨(some 7), none, .mv (.t 19)⟩])
 (.seq (.region [⟨(some 20), none, .mv (.t 7)⟩])
 (.cond (.t 20)
 (.seq (.region [⟨(some 21), none, .mv (.t 6)⟩, ⟨(some 2), none, .mv (.t 21)⟩, ⟨(some 3), none, .mv (.c (.bool true))⟩])
 .ret)
 .skip)))))
 (.region [⟨(some 22), none, .bin .add (.t 9) (.c (.int .i64 1))⟩, ⟨(some 9), none, .mv (.t 22)⟩]))))
def Qpb (L : QL) (K : QK) (N0 : QN) (e : Env) (h : Heap) : Prop :=
 (wi F L (.bin .lss (.c (e 9)) (.c (.int .i64 3))) E0 h fun v10 h =>
 (wb v10
 (QcF L K N0 (upd e 10 v10) (e 0) (e 8) (e 9) h)
 (Qcv L K  h)))
theorem QC0 {L : QL} {K : QK} (I : Nat → Env → Heap → Prop) (hr : ∀ n e h, I n e h → Qpb L K (fun e' h' => ∃ m, m < n ∧ I m e' h') e h) {n : Nat} {e : Env} {h : Heap} (hi : I n e h) : Wl F L QvX (Qrl L K) e h :=
  wloopp (b := Qpb L K) I (fun _ _ _ => by kernel_rfl) hr hi
def Qn1 (L : QL) (K : QK) (a0 : V) (h : Heap) : Prop :=
 (wi F L (.build [.nfn, .nfn, .nfn] [(0, 1, (.c (.fn Qef []))), (1, 1, (.c (.fn Qec []))), (2, 1, (.c (.fn Qd4 [])))]) E0 h fun v8 h =>
 (Wl F L QvX (Qrl L K) (upd (upd (upd (upd (Qd [a0]) 2 (.int .i64 0)) 3 (.bool false)) 8 v8) 9 (.int .i64 0)) h))
theorem QHi {L : QL} {K : QK} {a0 : V} {h : Heap} (hp : Qn1 L K a0 h) : Cf F L Qfl [a0] h K :=
  wcallp QCw (of_decide_eq_true (by kernel_rfl)) (p := Qn1 L K a0 h) (by kernel_rfl) hp
def Qhb (L : QL) (K : QK) (v0 v2 : V) (h : Heap) : Prop :=
 (wi F L (.bin .add (.c v0) (.c (.int .i64 1))) E0 h fun v18 h =>
 (wi F L (.store 1 (.c v2) (.c v18)) E0 h fun _ h =>
 (∃ v, Qa h (Qd []) [] = some v ∧ K v h)))
def QmF (L : QL) (K : QK) (a0 a1 a2 a3 : V) (h : Heap) : Prop :=
 (wi F L (.load false 1 (.c a1)) E0 h fun v6 h =>
 (wi F L (.load false 1 (.c a2)) E0 h fun v7 h =>
 (wi F L (.slstr (.c v6) (some (.c v7)) (some (.c a0))) E0 h fun v9 h =>
 (wi F L (.call QfF [(.c v9)]) E0 h fun v10 h =>
 (wi F L (.bin .neq (.c v10) (.c (.str []))) E0 h fun v12 h =>
 (wb v12
 (wi F L (.load false 1 (.c a3)) E0 h fun v13 h =>
 (wi F L (.bsl 1 [(.c v10)]) E0 h fun v15 h =>
 (wi F L (.app 1 16 false (.c v13) (.c v15)) E0 h fun v16 h =>
 (wi F L (.store 1 (.c a3) (.c v16)) E0 h fun _ h =>
 (Qhb L K a0 a2 h)))))
 (Qhb L K a0 a2 h)))))))
theorem QFp {L : QL} {K : QK} {a0 a1 a2 a3 : V} {h : Heap} (hp : QmF L K a0 a1 a2 a3 h) : Cf F L Qep [a0, a1, a2, a3] h K :=
  wcallp QIX (of_decide_eq_true (by kernel_rfl)) (p := QmF L K a0 a1 a2 a3 h) (by kernel_rfl) hp
def Qk0 (L : QL) (K : QK) (a0 : V) (h : Heap) : Prop :=
 (wi F L (.call Qf0 [(.c a0), (.c (.str [32, 9]))]) E0 h fun v4 h =>
 (∃ v, some v4 = some v ∧ K v h))
theorem QJ5 {L : QL} {K : QK} {a0 : V} {h : Heap} (hp : Qk0 L K a0 h) : Cf F L QfF [a0] h K :=
  wcallp QEn (of_decide_eq_true (by kernel_rfl)) (p := Qk0 L K a0 h) (by kernel_rfl) hp
def QgM (L : QL) (K : QK) (h : Heap) : Prop :=
 (∃ v, some (.bool true) = some v ∧ K v h)
def QiB (L : QL) (K : QK) (N0 : QN) (e : Env) (v8 : V) (h : Heap) : Prop :=
 (wi F L (.bin .add (.c v8) (.c (.int .i64 1))) E0 h fun v17 h =>
 (N0 (upd (upd e 17 v17) 8 v17) h))
def Qh0 (L : QL) (K : QK) (N0 : QN) (e : Env) (v0 v1 v8 : V) (h : Heap) : Prop :=
 (wi F L (.ixStr (.c v0) (.c v8)) E0 h fun v14 h =>
 (wi F L (.callv (.c v1) [(.c v14)]) E0 h fun v15 h =>
 (wi F L (.un .not (.c v15)) E0 h fun v16 h =>
 (wb v16
 (∃ v, some (.bool false) = some v ∧ K v h)
 (QiB L K N0 (upd (upd (upd (upd (upd (upd (upd (upd e 10 v8) 5 v8) 11 v1) 12 v0) 13 v8) 14 v14) 15 v15) 16 v16) v8 h)))))
def Qsm (L : QL) (K : QK) : X → Env → Heap → Prop := (fun x => (seqX (fun e h => QgM L K  h) (Qy Qka.results K)) (X.out 0 x))
def QsJ : C :=
 (.seq (.region [⟨(some 9), none, .bin .lss (.t 8) (.t 7)⟩])
 (.seq (.cond (.t 9)
 .skip
 (.exit 0))
 (.seq (.block 1 (.seq (.region [⟨(some 10), none, .mv (.t 8)⟩, ⟨(some 5), none, .mv (.t 10)⟩])
 (.seq (.region [⟨(some 11), none, .mv (.t 1)⟩, ⟨(some 12), none, .mv (.t 0)⟩, ⟨(some 13), none, .mv (.t 5)⟩, ⟨(some 14), none, .ixStr (.t 12) (.t 13)⟩, ⟨(some 15), none, .callv (.t 11) [(.t 14)]⟩, ⟨(some 16), none, .un .not (.t 15)⟩])
 (.cond (.t 16)
 (.seq (.region [⟨(some 4), none, .mv (.c (.bool false))⟩])
 .ret)
 .skip))))
 (.region [⟨(some 17), none, .bin .add (.t 8) (.c (.int .i64 1))⟩, ⟨(some 8), none, .mv (.t 17)⟩]))))
def Qmu (L : QL) (K : QK) (N0 : QN) (e : Env) (h : Heap) : Prop :=
 (wi F L (.bin .lss (.c (e 8)) (.c (e 7))) E0 h fun v9 h =>
 (wb v9
 (Qh0 L K N0 (upd e 9 v9) (e 0) (e 1) (e 8) h)
 (QgM L K  h)))
theorem QJx {L : QL} {K : QK} (I : Nat → Env → Heap → Prop) (hr : ∀ n e h, I n e h → Qmu L K (fun e' h' => ∃ m, m < n ∧ I m e' h') e h) {n : Nat} {e : Env} {h : Heap} (hi : I n e h) : Wl F L QsJ (Qsm L K) e h :=
  wloopp (b := Qmu L K) I (fun _ _ _ => by kernel_rfl) hr hi
def Qmi (L : QL) (K : QK) (a0 a1 : V) (h : Heap) : Prop :=
 (wi F L (.len 0 (.c a0)) E0 h fun v7 h =>
 (Wl F L QsJ (Qsm L K) (upd (upd (upd (upd (Qd [a0, a1]) 4 (.bool false)) 6 a0) 7 v7) 8 (.int .i64 0)) h))
theorem QCL {L : QL} {K : QK} {a0 a1 : V} {h : Heap} (hp : Qmi L K a0 a1 h) : Cf F L Qem [a0, a1] h K :=
  wcallp QJd (of_decide_eq_true (by kernel_rfl)) (p := Qmi L K a0 a1 h) (by kernel_rfl) hp
def QkM (L : QL) (K : QK) (a0 : V) (h : Heap) : Prop :=
 (wi F L (.bin .geq (.c a0) (.c (.int .u8 48))) E0 h fun v4 h =>
 (wg v4 true (wi F L (.mv (.c a0)) E0 h) h fun v6 h =>
 (wg v4 true (wi F L (.bin .leq (.c v6) (.c (.int .u8 57))) E0 h) h fun v7 h =>
 (wi F L (.pick (.c v4) (.c v7) (.c (.bool false))) E0 h fun v8 h =>
 (∃ v, some v8 = some v ∧ K v h)))))
theorem QIW {L : QL} {K : QK} {a0 : V} {h : Heap} (hp : QkM L K a0 h) : Cf F L Qgv [a0] h K :=
  wcallp QF9 (of_decide_eq_true (by kernel_rfl)) (p := QkM L K a0 h) (by kernel_rfl) hp
def Qnz (L : QL) (K : QK) (v2 v4 : V) (h : Heap) : Prop :=
 (wi F L (.load true 13 (.c v4)) E0 h fun v131 h =>
 (wi F L (.store 13 (.c v2) (.c v131)) E0 h fun _ h =>
 (∃ v, Qa h (Qd [v2, (.bool true)]) [.cell 0 true 13, .tmp 1] = some v ∧ K v h)))
def QQ (L : QL) (K : QK) (N0 : QN) (e : Env) (v7 : V) (h : Heap) : Prop :=
 (wi F L (.bin .add (.c v7) (.c (.int .i64 1))) E0 h fun v30 h =>
 (N0 (upd (upd (upd e 29 v7) 30 v30) 7 v30) h))
def QiM (L : QL) (K : QK) (N0 : QN) (e : Env) (v4 v7 v12 : V) (h : Heap) : Prop :=
 (wi F L (.faddr 7 (.c v4)) E0 h fun v79 h =>
 (wi F L (.load false 1 (.c v79)) E0 h fun v80 h =>
 (wi F L (.call QaV [(.c v80), (.c v12)]) E0 h fun v82 h =>
 (wi F L (.faddr 7 (.c v4)) E0 h fun v83 h =>
 (wi F L (.store 1 (.c v83) (.c v82)) E0 h fun _ h =>
 (QQ L K N0 (upd (upd (upd (upd (upd e 79 v79) 80 v80) 81 v12) 82 v82) 83 v83) v7 h))))))
def Qkh (L : QL) (K : QK) (N0 : QN) (e : Env) (v4 v7 v12 : V) (h : Heap) : Prop :=
 (wi F L (.faddr 8 (.c v4)) E0 h fun v88 h =>
 (wi F L (.load false 1 (.c v88)) E0 h fun v89 h =>
 (wi F L (.call QaV [(.c v89), (.c v12)]) E0 h fun v91 h =>
 (wi F L (.faddr 8 (.c v4)) E0 h fun v92 h =>
 (wi F L (.store 1 (.c v92) (.c v91)) E0 h fun _ h =>
 (QQ L K N0 (upd (upd (upd (upd (upd e 88 v88) 89 v89) 90 v12) 91 v91) 92 v92) v7 h))))))
def QvH (L : QL) (K : QK) (N0 : QN) (e : Env) (v4 v7 v8 v9 v45 v46 v47 v50 v51 v53 v55 v58 v61 v64 v67 v70 v73 v76 v85 v94 v96 v97 v99 : V) (h : Heap) : Prop :=
 (wi F L (.faddr 9 (.c v4)) E0 h fun v100 h =>
 (wi F L (.store 1 (.c v100) (.c v99)) E0 h fun _ h =>
 (QQ L K N0 (upd (upd (upd (upd (upd (upd (upd (upd (upd (upd (upd (upd (upd (upd (upd (upd (upd (upd (upd (upd (upd (upd (upd (upd (upd (upd (upd (upd (upd (upd (upd (upd (upd (upd (upd (upd (upd (upd (upd (upd e 44 v9) 45 v45) 43 v45) 46 v46) 47 v47) 12 v46) 13 v47) 48 v47) 49 v47) 50 v50) 51 v51) 13 v51) 52 v8) 53 v53) 55 v55) 54 v55) 58 v58) 57 v58) 61 v61) 60 v61) 64 v64) 63 v64) 67 v67) 66 v67) 70 v70) 69 v70) 73 v73) 72 v73) 76 v76) 75 v76) 85 v85) 84 v85) 94 v94) 93 v94) 95 v51) 96 v96) 97 v97) 98 v46) 99 v99) 100 v100) v7 h)))
def QtO (L : QL) (K : QK) (N0 : QN) (e : Env) (v4 v7 v8 v9 v45 v46 v47 v50 v51 v53 v55 v58 v61 v64 v67 v70 v73 v76 v85 v94 v102 v104 v105 v107 : V) (h : Heap) : Prop :=
 (wi F L (.faddr 10 (.c v4)) E0 h fun v108 h =>
 (wi F L (.store 1 (.c v108) (.c v107)) E0 h fun _ h =>
 (QQ L K N0 (upd (upd (upd (upd (upd (upd (upd (upd (upd (upd (upd (upd (upd (upd (upd (upd (upd (upd (upd (upd (upd (upd (upd (upd (upd (upd (upd (upd (upd (upd (upd (upd (upd (upd (upd (upd (upd (upd (upd (upd (upd (upd e 44 v9) 45 v45) 43 v45) 46 v46) 47 v47) 12 v46) 13 v47) 48 v47) 49 v47) 50 v50) 51 v51) 13 v51) 52 v8) 53 v53) 55 v55) 54 v55) 58 v58) 57 v58) 61 v61) 60 v61) 64 v64) 63 v64) 67 v67) 66 v67) 70 v70) 69 v70) 73 v73) 72 v73) 76 v76) 75 v76) 85 v85) 84 v85) 94 v94) 93 v94) 102 v102) 101 v102) 103 v51) 104 v104) 105 v105) 106 v46) 107 v107) 108 v108) v7 h)))
def QtB (L : QL) (K : QK) (N0 : QN) (e : Env) (v4 v7 v8 v9 v45 v46 v47 v50 v51 v53 v55 v58 v61 v64 v67 v70 v73 v76 v85 v94 v102 v110 v112 v113 v115 : V) (h : Heap) : Prop :=
 (wi F L (.faddr 11 (.c v4)) E0 h fun v116 h =>
 (wi F L (.store 1 (.c v116) (.c v115)) E0 h fun _ h =>
 (QQ L K N0 (upd (upd (upd (upd (upd (upd (upd (upd (upd (upd (upd (upd (upd (upd (upd (upd (upd (upd (upd (upd (upd (upd (upd (upd (upd (upd (upd (upd (upd (upd (upd (upd (upd (upd (upd (upd (upd (upd (upd (upd (upd (upd (upd (upd e 44 v9) 45 v45) 43 v45) 46 v46) 47 v47) 12 v46) 13 v47) 48 v47) 49 v47) 50 v50) 51 v51) 13 v51) 52 v8) 53 v53) 55 v55) 54 v55) 58 v58) 57 v58) 61 v61) 60 v61) 64 v64) 63 v64) 67 v67) 66 v67) 70 v70) 69 v70) 73 v73) 72 v73) 76 v76) 75 v76) 85 v85) 84 v85) 94 v94) 93 v94) 102 v102) 101 v102) 110 v110) 109 v110) 111 v51) 112 v112) 113 v113) 114 v46) 115 v115) 116 v116) v7 h)))
def Quj (L : QL) (K : QK) (N0 : QN) (e : Env) (v4 v7 v8 v9 v10 v45 v46 v47 v50 v51 v53 v55 v58 v61 v64 v67 v70 v73 v76 v85 v94 v102 v110 v118 v120 v121 v122 v123 : V) (h : Heap) : Prop :=
 (wi F L (.faddr 12 (.c v4)) E0 h fun v124 h =>
 (wi F L (.store 1 (.c v124) (.c v123)) E0 h fun _ h =>
 (QQ L K N0 (upd (upd (upd (upd (upd (upd (upd (upd (upd (upd (upd (upd (upd (upd (upd (upd (upd (upd (upd (upd (upd (upd (upd (upd (upd (upd (upd (upd (upd (upd (upd (upd (upd (upd (upd (upd (upd (upd (upd (upd (upd (upd (upd (upd (upd (upd e 44 v9) 45 v45) 43 v45) 46 v46) 47 v47) 12 v46) 13 v47) 48 v47) 49 v47) 50 v50) 51 v51) 13 v51) 52 v8) 53 v53) 55 v55) 54 v55) 58 v58) 57 v58) 61 v61) 60 v61) 64 v64) 63 v64) 67 v67) 66 v67) 70 v70) 69 v70) 73 v73) 72 v73) 76 v76) 75 v76) 85 v85) 84 v85) 94 v94) 93 v94) 102 v102) 101 v102) 110 v110) 109 v110) 118 v118) 117 v118) 119 v10) 120 v120) 121 v121) 122 v122) 123 v123) 124 v124) v7 h)))
def Qvh (L : QL) (K : QK) (N0 : QN) (e : Env) (v4 v7 v8 v9 v10 v45 v46 v47 v50 v51 v53 v55 v58 v61 v64 v67 v70 v73 v76 v85 v94 v102 v110 v118 v120 v126 v127 v129 : V) (h : Heap) : Prop :=
 (wi F L (.faddr 12 (.c v4)) E0 h fun v130 h =>
 (wi F L (.store 1 (.c v130) (.c v129)) E0 h fun _ h =>
 (QQ L K N0 (upd (upd (upd (upd (upd (upd (upd (upd (upd (upd (upd (upd (upd (upd (upd (upd (upd (upd (upd (upd (upd (upd (upd (upd (upd (upd (upd (upd (upd (upd (upd (upd (upd (upd (upd (upd (upd (upd (upd (upd (upd (upd (upd (upd (upd (upd (upd (upd e 44 v9) 45 v45) 43 v45) 46 v46) 47 v47) 12 v46) 13 v47) 48 v47) 49 v47) 50 v50) 51 v51) 13 v51) 52 v8) 53 v53) 55 v55) 54 v55) 58 v58) 57 v58) 61 v61) 60 v61) 64 v64) 63 v64) 67 v67) 66 v67) 70 v70) 69 v70) 73 v73) 72 v73) 76 v76) 75 v76) 85 v85) 84 v85) 94 v94) 93 v94) 102 v102) 101 v102) 110 v110) 109 v110) 118 v118) 117 v118) 119 v10) 120 v120) 125 v51) 126 v126) 127 v127) 128 v46) 129 v129) 130 v130) v7 h)))
def Qix (L : QL) (K : QK) (N0 : QN) (e : Env) (v4 v7 v8 v9 v10 v45 v46 v47 v50 v51 v53 : V) (h : Heap) : Prop :=
 (wi F L (.bin .eql (.c v53) (.c (.str [110, 111, 45, 115, 116, 111, 114, 101]))) E0 h fun v55 h =>
 (wb v55
 (wi F L (.faddr 0 (.c v4)) E0 h fun v56 h =>
 (wi F L (.store 1 (.c v56) (.c (.bool true))) E0 h fun _ h =>
 (QQ L K N0 (upd (upd (upd (upd (upd (upd (upd (upd (upd (upd (upd (upd (upd (upd (upd (upd (upd e 44 v9) 45 v45) 43 v45) 46 v46) 47 v47) 12 v46) 13 v47) 48 v47) 49 v47) 50 v50) 51 v51) 13 v51) 52 v8) 53 v53) 55 v55) 54 v55) 56 v56) v7 h)))
 (wi F L (.bin .eql (.c v53) (.c (.str [110, 111, 45, 99, 97, 99, 104, 101]))) E0 h fun v58 h =>
 (wb v58
 (wi F L (.faddr 1 (.c v4)) E0 h fun v59 h =>
 (wi F L (.store 1 (.c v59) (.c (.bool true))) E0 h fun _ h =>
 (QQ L K N0 (upd (upd (upd (upd (upd (upd (upd (upd (upd (upd (upd (upd (upd (upd (upd (upd (upd (upd (upd e 44 v9) 45 v45) 43 v45) 46 v46) 47 v47) 12 v46) 13 v47) 48 v47) 49 v47) 50 v50) 51 v51) 13 v51) 52 v8) 53 v53) 55 v55) 54 v55) 58 v58) 57 v58) 59 v59) v7 h)))
 (wi F L (.bin .eql (.c v53) (.c (.str [112, 114, 105, 118, 97, 116, 101]))) E0 h fun v61 h =>
 (wb v61
 (wi F L (.faddr 2 (.c v4)) E0 h fun v62 h =>
 (wi F L (.store 1 (.c v62) (.c (.bool true))) E0 h fun _ h =>
 (QQ L K N0 (upd (upd (upd (upd (upd (upd (upd (upd (upd (upd (upd (upd (upd (upd (upd (upd (upd (upd (upd (upd (upd e 44 v9) 45 v45) 43 v45) 46 v46) 47 v47) 12 v46) 13 v47) 48 v47) 49 v47) 50 v50) 51 v51) 13 v51) 52 v8) 53 v53) 55 v55) 54 v55) 58 v58) 57 v58) 61 v61) 60 v61) 62 v62) v7 h)))
 (wi F L (.bin .eql (.c v53) (.c (.str [112, 117, 98, 108, 105, 99]))) E0 h fun v64 h =>
 (wb v64
 (wi F L (.faddr 3 (.c v4)) E0 h fun v65 h =>
 (wi F L (.store 1 (.c v65) (.c (.bool true))) E0 h fun _ h =>
 (QQ L K N0 (upd (upd (upd (upd (upd (upd (upd (upd (upd (upd (upd (upd (upd (upd (upd (upd (upd (upd (upd (upd (upd (upd (upd e 44 v9) 45 v45) 43 v45) 46 v46) 47 v47) 12 v46) 13 v47) 48 v47) 49 v47) 50 v50) 51 v51) 13 v51) 52 v8) 53 v53) 55 v55) 54 v55) 58 v58) 57 v58) 61 v61) 60 v61) 64 v64) 63 v64) 65 v65) v7 h)))
 (wi F L (.bin .eql (.c v53) (.c (.str [109, 117, 115, 116, 45, 114, 101, 118, 97, 108, 105, 100, 97, 116, 101]))) E0 h fun v67 h =>
 (wb v67
 (wi F L (.faddr 4 (.c v4)) E0 h fun v68 h =>
 (wi F L (.store 1 (.c v68) (.c (.bool true))) E0 h fun _ h =>
 (QQ L K N0 (upd (upd (upd (upd (upd (upd (upd (upd (upd (upd (upd (upd (upd (upd (upd (upd (upd (upd (upd (upd (upd (upd (upd (upd (upd e 44 v9) 45 v45) 43 v45) 46 v46) 47 v47) 12 v46) 13 v47) 48 v47) 49 v47) 50 v50) 51 v51) 13 v51) 52 v8) 53 v53) 55 v55) 54 v55) 58 v58) 57 v58) 61 v61) 60 v61) 64 v64) 63 v64) 67 v67) 66 v67) 68 v68) v7 h)))
 (wi F L (.bin .eql (.c v53) (.c (.str [112, 114, 111, 120, 121, 45, 114, 101, 118, 97, 108, 105, 100, 97, 116, 101]))) E0 h fun v70 h =>
 (wb v70
 (wi F L (.faddr 5 (.c v4)) E0 h fun v71 h =>
 (wi F L (.store 1 (.c v71) (.c (.bool true))) E0 h fun _ h =>
 (QQ L K N0 (upd (upd (upd (upd (upd (upd (upd (upd (upd (upd (upd (upd (upd (upd (upd (upd (upd (upd (upd (upd (upd (upd (upd (upd (upd (upd (upd e 44 v9) 45 v45) 43 v45) 46 v46) 47 v47) 12 v46) 13 v47) 48 v47) 49 v47) 50 v50) 51 v51) 13 v51) 52 v8) 53 v53) 55 v55) 54 v55) 58 v58) 57 v58) 61 v61) 60 v61) 64 v64) 63 v64) 67 v67) 66 v67) 70 v70) 69 v70) 71 v71) v7 h)))
 (wi F L (.bin .eql (.c v53) (.c (.str [111, 110, 108, 121, 45, 105, 102, 45, 99, 97, 99, 104, 101, 100]))) E0 h fun v73 h =>
 (wb v73
 (wi F L (.faddr 6 (.c v4)) E0 h fun v74 h =>
 (wi F L (.store 1 (.c v74) (.c (.bool true))) E0 h fun _ h =>
 (QQ L K N0 (upd (upd (upd (upd (upd (upd (upd (upd (upd (upd (upd (upd (upd (upd (upd (upd (upd (upd (upd (upd (upd (upd (upd (upd (upd (upd (upd (upd (upd e 44 v9) 45 v45) 43 v45) 46 v46) 47 v47) 12 v46) 13 v47) 48 v47) 49 v47) 50 v50) 51 v51) 13 v51) 52 v8) 53 v53) 55 v55) 54 v55) 58 v58) 57 v58) 61 v61) 60 v61) 64 v64) 63 v64) 67 v67) 66 v67) 70 v70) 69 v70) 73 v73) 72 v73) 74 v74) v7 h)))
 (wi F L (.bin .eql (.c v53) (.c (.str [109, 97, 120, 45, 97, 103, 101]))) E0 h fun v76 h =>
 (wb v76
 (wi F L (.un .not (.c v51)) E0 h fun v78 h =>
 (wb v78
 (QiM L K N0 (upd (upd (upd (upd (upd (upd (upd (upd (upd (upd (upd (upd (upd (upd (upd (upd (upd (upd (upd (upd (upd (upd (upd (upd (upd (upd (upd (upd (upd (upd (upd (upd (upd e 44 v9) 45 v45) 43 v45) 46 v46) 47 v47) 12 v46) 13 v47) 48 v47) 49 v47) 50 v50) 51 v51) 13 v51) 52 v8) 53 v53) 55 v55) 54 v55) 58 v58) 57 v58) 61 v61) 60 v61) 64 v64) 63 v64) 67 v67) 66 v67) 70 v70) 69 v70) 73 v73) 72 v73) 76 v76) 75 v76) 77 v51) 78 v78) 12 (.int .i64 0)) v4 v7 (.int .i64 0) h)
 (QiM L K N0 (upd (upd (upd (upd (upd (upd (upd (upd (upd (upd (upd (upd (upd (upd (upd (upd (upd (upd (upd (upd (upd (upd (upd (upd (upd (upd (upd (upd (upd (upd (upd (upd e 44 v9) 45 v45) 43 v45) 46 v46) 47 v47) 12 v46) 13 v47) 48 v47) 49 v47) 50 v50) 51 v51) 13 v51) 52 v8) 53 v53) 55 v55) 54 v55) 58 v58) 57 v58) 61 v61) 60 v61) 64 v64) 63 v64) 67 v67) 66 v67) 70 v70) 69 v70) 73 v73) 72 v73) 76 v76) 75 v76) 77 v51) 78 v78) v4 v7 v46 h)))
 (wi F L (.bin .eql (.c v53) (.c (.str [115, 45, 109, 97, 120, 97, 103, 101]))) E0 h fun v85 h =>
 (wb v85
 (wi F L (.un .not (.c v51)) E0 h fun v87 h =>
 (wb v87
 (Qkh L K N0 (upd (upd (upd (upd (upd (upd (upd (upd (upd (upd (upd (upd (upd (upd (upd (upd (upd (upd (upd (upd (upd (upd (upd (upd (upd (upd (upd (upd (upd (upd (upd (upd (upd (upd (upd e 44 v9) 45 v45) 43 v45) 46 v46) 47 v47) 12 v46) 13 v47) 48 v47) 49 v47) 50 v50) 51 v51) 13 v51) 52 v8) 53 v53) 55 v55) 54 v55) 58 v58) 57 v58) 61 v61) 60 v61) 64 v64) 63 v64) 67 v67) 66 v67) 70 v70) 69 v70) 73 v73) 72 v73) 76 v76) 75 v76) 85 v85) 84 v85) 86 v51) 87 v87) 12 (.int .i64 0)) v4 v7 (.int .i64 0) h)
 (Qkh L K N0 (upd (upd (upd (upd (upd (upd (upd (upd (upd (upd (upd (upd (upd (upd (upd (upd (upd (upd (upd (upd (upd (upd (upd (upd (upd (upd (upd (upd (upd (upd (upd (upd (upd (upd e 44 v9) 45 v45) 43 v45) 46 v46) 47 v47) 12 v46) 13 v47) 48 v47) 49 v47) 50 v50) 51 v51) 13 v51) 52 v8) 53 v53) 55 v55) 54 v55) 58 v58) 57 v58) 61 v61) 60 v61) 64 v64) 63 v64) 67 v67) 66 v67) 70 v70) 69 v70) 73 v73) 72 v73) 76 v76) 75 v76) 85 v85) 84 v85) 86 v51) 87 v87) v4 v7 v46 h)))
 (wi F L (.bin .eql (.c v53) (.c (.str [115, 116, 97, 108, 101, 45, 119, 104, 105, 108, 101, 45, 114, 101, 118, 97, 108, 105, 100, 97, 116, 101]))) E0 h fun v94 h =>
 (wb v94
 (wb v51
 (wi F L (.faddr 9 (.c v4)) E0 h fun v96 h =>
 (wi F L (.load false 1 (.c v96)) E0 h fun v97 h =>
 (wi F L (.call QaV [(.c v97), (.c v46)]) E0 h fun v99 h =>
 (QvH L K N0 e v4 v7 v8 v9 v45 v46 v47 v50 v51 v53 v55 v58 v61 v64 v67 v70 v73 v76 v85 v94 v96 v97 v99 h))))
 (QQ L K N0 (upd (upd (upd (upd (upd (upd (upd (upd (upd (upd (upd (upd (upd (upd (upd (upd (upd (upd (upd (upd (upd (upd (upd (upd (upd (upd (upd (upd (upd (upd (upd (upd (upd (upd (upd e 44 v9) 45 v45) 43 v45) 46 v46) 47 v47) 12 v46) 13 v47) 48 v47) 49 v47) 50 v50) 51 v51) 13 v51) 52 v8) 53 v53) 55 v55) 54 v55) 58 v58) 57 v58) 61 v61) 60 v61) 64 v64) 63 v64) 67 v67) 66 v67) 70 v70) 69 v70) 73 v73) 72 v73) 76 v76) 75 v76) 85 v85) 84 v85) 94 v94) 93 v94) 95 v51) v7 h))
 (wi F L (.bin .eql (.c v53) (.c (.str [115, 116, 97, 108, 101, 45, 105, 102, 45, 101, 114, 114, 111, 114]))) E0 h fun v102 h =>
 (wb v102
 (wb v51
 (wi F L (.faddr 10 (.c v4)) E0 h fun v104 h =>
 (wi F L (.load false 1 (.c v104)) E0 h fun v105 h =>
 (wi F L (.call QaV [(.c v105), (.c v46)]) E0 h fun v107 h =>
 (QtO L K N0 e v4 v7 v8 v9 v45 v46 v47 v50 v51 v53 v55 v58 v61 v64 v67 v70 v73 v76 v85 v94 v102 v104 v105 v107 h))))
 (QQ L K N0 (upd (upd (upd (upd (upd (upd (upd (upd (upd (upd (upd (upd (upd (upd (upd (upd (upd (upd (upd (upd (upd (upd (upd (upd (upd (upd (upd (upd (upd (upd (upd (upd (upd (upd (upd (upd (upd e 44 v9) 45 v45) 43 v45) 46 v46) 47 v47) 12 v46) 13 v47) 48 v47) 49 v47) 50 v50) 51 v51) 13 v51) 52 v8) 53 v53) 55 v55) 54 v55) 58 v58) 57 v58) 61 v61) 60 v61) 64 v64) 63 v64) 67 v67) 66 v67) 70 v70) 69 v70) 73 v73) 72 v73) 76 v76) 75 v76) 85 v85) 84 v85) 94 v94) 93 v94) 102 v102) 101 v102) 103 v51) v7 h))
 (wi F L (.bin .eql (.c v53) (.c (.str [109, 105, 110, 45, 102, 114, 101, 115, 104]))) E0 h fun v110 h =>
 (wb v110
 (wb v51
 (wi F L (.faddr 11 (.c v4)) E0 h fun v112 h =>
 (wi F L (.load false 1 (.c v112)) E0 h fun v113 h =>
 (wi F L (.call QaV [(.c v113), (.c v46)]) E0 h fun v115 h =>
 (QtB L K N0 e v4 v7 v8 v9 v45 v46 v47 v50 v51 v53 v55 v58 v61 v64 v67 v70 v73 v76 v85 v94 v102 v110 v112 v113 v115 h))))
 (QQ L K N0 (upd (upd (upd (upd (upd (upd (upd (upd (upd (upd (upd (upd (upd (upd (upd (upd (upd (upd (upd (upd (upd (upd (upd (upd (upd (upd (upd (upd (upd (upd (upd (upd (upd (upd (upd (upd (upd (upd (upd e 44 v9) 45 v45) 43 v45) 46 v46) 47 v47) 12 v46) 13 v47) 48 v47) 49 v47) 50 v50) 51 v51) 13 v51) 52 v8) 53 v53) 55 v55) 54 v55) 58 v58) 57 v58) 61 v61) 60 v61) 64 v64) 63 v64) 67 v67) 66 v67) 70 v70) 69 v70) 73 v73) 72 v73) 76 v76) 75 v76) 85 v85) 84 v85) 94 v94) 93 v94) 102 v102) 101 v102) 110 v110) 109 v110) 111 v51) v7 h))
 (wi F L (.bin .eql (.c v53) (.c (.str [109, 97, 120, 45, 115, 116, 97, 108, 101]))) E0 h fun v118 h =>
 (wb v118
 (wi F L (.un .not (.c v10)) E0 h fun v120 h =>
 (wb v120
 (wi F L (.faddr 12 (.c v4)) E0 h fun v121 h =>
 (wi F L (.load false 1 (.c v121)) E0 h fun v122 h =>
 (wi F L (.call QaV [(.c v122), (.c (.int .i64 2147483648))]) E0 h fun v123 h =>
 (Quj L K N0 e v4 v7 v8 v9 v10 v45 v46 v47 v50 v51 v53 v55 v58 v61 v64 v67 v70 v73 v76 v85 v94 v102 v110 v118 v120 v121 v122 v123 h))))
 (wb v51
 (wi F L (.faddr 12 (.c v4)) E0 h fun v126 h =>
 (wi F L (.load false 1 (.c v126)) E0 h fun v127 h =>
 (wi F L (.call QaV [(.c v127), (.c v46)]) E0 h fun v129 h =>
 (Qvh L K N0 e v4 v7 v8 v9 v10 v45 v46 v47 v50 v51 v53 v55 v58 v61 v64 v67 v70 v73 v76 v85 v94 v102 v110 v118 v120 v126 v127 v129 h))))
 (QQ L K N0 (upd (upd (upd (upd (upd (upd (upd (upd (upd (upd (upd (upd (upd (upd (upd (upd (upd (upd (upd (upd (upd (upd (upd (upd (upd (upd (upd (upd (upd (upd (upd (upd (upd (upd (upd (upd (upd (upd (upd (upd (upd (upd (upd e 44 v9) 45 v45) 43 v45) 46 v46) 47 v47) 12 v46) 13 v47) 48 v47) 49 v47) 50 v50) 51 v51) 13 v51) 52 v8) 53 v53) 55 v55) 54 v55) 58 v58) 57 v58) 61 v61) 60 v61) 64 v64) 63 v64) 67 v67) 66 v67) 70 v70) 69 v70) 73 v73) 72 v73) 76 v76) 75 v76) 85 v85) 84 v85) 94 v94) 93 v94) 102 v102) 101 v102) 110 v110) 109 v110) 118 v118) 117 v118) 119 v10) 120 v120) 125 v51) v7 h))))
 (QQ L K N0 (upd (upd (upd (upd (upd (upd (upd (upd (upd (upd (upd (upd (upd (upd (upd (upd (upd (upd (upd (upd (upd (upd (upd (upd (upd (upd (upd (upd (upd (upd (upd (upd (upd (upd (upd (upd (upd (upd (upd (upd e 44 v9) 45 v45) 43 v45) 46 v46) 47 v47) 12 v46) 13 v47) 48 v47) 49 v47) 50 v50) 51 v51) 13 v51) 52 v8) 53 v53) 55 v55) 54 v55) 58 v58) 57 v58) 61 v61) 60 v61) 64 v64) 63 v64) 67 v67) 66 v67) 70 v70) 69 v70) 73 v73) 72 v73) 76 v76) 75 v76) 85 v85) 84 v85) 94 v94) 93 v94) 102 v102) 101 v102) 110 v110) 109 v110) 118 v118) 117 v118) v7 h)))))))))))))))))))))))))))
def Qr3 (L : QL) (K : QK) (N0 : QN) (e : Env) (v4 v7 v8 v9 v10 : V) (h : Heap) : Prop :=
 (wi F L (.call Qeh [(.c v9), (.c (.int .i64 2147483648))]) E0 h fun v45 h =>
 (wi F L (.ext 0 (.c v45)) E0 h fun v46 h =>
 (wi F L (.ext 1 (.c v45)) E0 h fun v47 h =>
 (wg v47 true (wi F L (.mv (.c v10)) E0 h) h fun v50 h =>
 (wi F L (.pick (.c v47) (.c v50) (.c (.bool false))) E0 h fun v51 h =>
 (wi F L (.call Qb4 [(.c v8)]) E0 h fun v53 h =>
 (Qix L K N0 e v4 v7 v8 v9 v10 v45 v46 v47 v50 v51 v53 h)))))))
def Qs4 (L : QL) (K : QK) (N0 : QN) (e : Env) (v4 v5 v7 v34 v35 v36 : V) (h : Heap) : Prop :=
 (wi F L (.ext 0 (.c v36)) E0 h fun v37 h =>
 (wi F L (.ext 1 (.c v36)) E0 h fun v38 h =>
 (wi F L (.ext 2 (.c v36)) E0 h fun v39 h =>
 (wi F L (.ext 3 (.c v36)) E0 h fun v40 h =>
 (wi F L (.un .not (.c v40)) E0 h fun v42 h =>
 (wb v42
 (QQ L K N0 (upd (upd (upd (upd (upd (upd (upd (upd (upd (upd (upd (upd (upd (upd (upd (upd e 32 v5) 33 v7) 34 v34) 35 v35) 36 v36) 31 v36) 37 v37) 38 v38) 39 v39) 40 v40) 8 v37) 9 v38) 10 v39) 11 v40) 41 v40) 42 v42) v7 h)
 (Qr3 L K N0 (upd (upd (upd (upd (upd (upd (upd (upd (upd (upd (upd (upd (upd (upd (upd (upd e 32 v5) 33 v7) 34 v34) 35 v35) 36 v36) 31 v36) 37 v37) 38 v38) 39 v39) 40 v40) 8 v37) 9 v38) 10 v39) 11 v40) 41 v40) 42 v42) v4 v7 v37 v38 v39 h)))))))
def QuF (L : QL) (K : QK) (N0 : QN) (e : Env) (v4 v5 v7 : V) (h : Heap) : Prop :=
 (wi F L (.ixaSl 1 (.c v5) (.c v7)) E0 h fun v34 h =>
 (wi F L (.load false 1 (.c v34)) E0 h fun v35 h =>
 (wi F L (.call Qet [(.c v35)]) E0 h fun v36 h =>
 (Qs4 L K N0 e v4 v5 v7 v34 v35 v36 h))))
def QrF (L : QL) (K : QK) : X → Env → Heap → Prop := (fun x => (seqX (fun e h => Qnz L K (e 2) (e 4) h) (Qy Qji.results K)) (X.out 0 x))
def Qr1 : C :=
 (.seq (.seq (.region [⟨(some 25), none, .mv (.t 7)⟩, ⟨(some 26), none, .mv (.t 5)⟩, ⟨(some 27), none, .len 1 (.t 26)⟩, ⟨(some 28), none, .bin .lss (.t 25) (.t 27)⟩])
 (.cond (.t 28)
 .skip
 (.exit 0)))
 (.seq (.block 1 (.seq (.region [⟨(some 32), none, .mv (.t 5)⟩, ⟨(some 33), none, .mv (.t 7)⟩, ⟨(some 34), none, .ixaSl 1 (.t 32) (.t 33)⟩, ⟨(some 35), none, .load false 1 (.t 34)⟩, ⟨(some 36), none, .call Qet [(.t 35)]⟩, ⟨(some 31), none, .mv (.t 36)⟩, ⟨(some 37), none, .ext 0 (.t 31)⟩, ⟨(some 38), none, .ext 1 (.t 31)⟩, ⟨(some 39), none, .ext 2 (.t 31)⟩, ⟨(some 40), none, .ext 3 (.t 31)⟩, ⟨(some 8), none, .mv (.t 37)⟩, ⟨(some 9), none, .mv (.t 38)⟩, ⟨(some 10), none, .mv (.t 39)⟩, ⟨(some 11), none, .mv (.t 40)⟩])
 (.seq (.seq (.region [⟨(some 41), none, .mv (.t 11)⟩, ⟨(some 42), none, .un .not (.t 41)⟩])
 (.cond (.t 42)
 (.exit 1)
 .skip))
 (.seq (.region [⟨(some 44), none, .mv (.t 9)⟩, ⟨(some 45), none, .call Qeh [(.t 44), (.c (.int .i64 2147483648))]⟩, ⟨(some 43), none, .mv (.t 45)⟩, ⟨(some 46), none, .ext 0 (.t 43)⟩, ⟨(some 47), none, .ext 1 (.t 43)⟩, ⟨(some 12), none, .mv (.t 46)⟩, ⟨(some 13), none, .mv (.t 47)⟩])
 (.seq (.region [⟨(some 48), none, .mv (.t 13)⟩, ⟨(some 49), none, .mv (.t 48)⟩, ⟨(some 50), (some (49, true)), .mv (.t 10)⟩, ⟨(some 51), none, .pick (.t 49) (.t 50) (.c (.bool false))⟩, ⟨(some 13), none, .mv (.t 51)⟩])
 (.seq (.region [⟨(some 52), none, .mv (.t 8)⟩, ⟨(some 53), none, .call Qb4 [(.t 52)]⟩])
 (.block 2 (.seq (.region [⟨(some 55), none, .bin .eql (.t 53) (.c (.str [110, 111, 45, 115, 116, 111, 114, 101]))⟩, ⟨(some 54), none, .mv (.t 55)⟩])
 (.cond (.t 54)
 (.region [⟨(some 56), none, .faddr 0 (.t 4)⟩, ⟨none, none, .store 1 (.t 56) (.c (.bool true))⟩])
 (.seq (.region [⟨(some 58), none, .bin .eql (.t 53) (.c (.str [110, 111, 45, 99, 97, 99, 104, 101]))⟩, ⟨(some 57), none, .mv (.t 58)⟩])
 (.cond (.t 57)
 (.region [⟨(some 59), none, .faddr 1 (.t 4)⟩, ⟨none, none, .store 1 (.t 59) (.c (.bool true))⟩])
 (.seq (.region [⟨(some 61), none, .bin .eql (.t 53) (.c (.str [112, 114, 105, 118, 97, 116, 101]))⟩, ⟨(some 60), none, .mv (.t 61)⟩])
 (.cond (.t 60)
 (.region [⟨(some 62), none, .faddr 2 (.t 4)⟩, ⟨none, none, .store 1 (.t 62) (.c (.bool true))⟩])
 (.seq (.region [⟨(some 64), none, .bin .eql (.t 53) (.c (.str [112, 117, 98, 108, 105, 99]))⟩, ⟨(some 63), none, .mv (.t 64)⟩])
 (.cond (.t 63)
 (.region [⟨(some 65), none, .faddr 3 (.t 4)⟩, ⟨none, none, .store 1 (.t 65) (.c (.bool true))⟩])
 (.seq (.region [⟨(some 67), none, .bin .eql (.t 53) (.c (.str [109, 117, 115, 116, 45, 114, 101, 118, 97, 108, 105, 100, 97, 116, 101]))⟩, ⟨(some 66), none, .mv (.t 67)⟩])
 (.cond (.t 66)
 (.region [⟨(some 68), none, .faddr 4 (.t 4)⟩, ⟨none, none, .store 1 (.t 68) (.c (.bool true))⟩])
 (.seq (.region [⟨(some 70), none, .bin .eql (.t 53) (.c (.str [112, 114, 111, 120, 121, 45, 114, 101, 118, 97, 108, 105, 100, 97, 116, 101]))⟩, ⟨(some 69), none, .mv (.t 70)⟩])
 (.cond (.t 69)
 (.region [⟨(some 71), none, .faddr 5 (.t 4)⟩, ⟨none, none, .store 1 (.t 71) (.c (.bool true))⟩])
 (.seq (.region [⟨(some 73), none, .bin .eql (.t 53) (.c (.str [111, 110, 108, 121, 45, 105, 102, 45, 99, 97, 99, 104, 101, 100]))⟩, ⟨(some 72), none, .mv (.t 73)⟩])
 (.cond (.t 72)
 (.region [⟨(some 74), none, .faddr 6 (.t 4)⟩, ⟨none, none, .store 1 (.t 74) (.c (.bool true))⟩])
 (.seq (.region [⟨(some 76), none, .bin .eql (.t 53) (.c (.str [109, 97, 120, 45, 97, 103, 101]))⟩, ⟨(some 75), none, .mv (.t 76)⟩])
 (.cond (.t 75)
 (.seq (.seq (.region [⟨(some 77), none, .mv (.t 13)⟩, ⟨(some 78), none, .un .not (.t 77)⟩])
 (.cond (.t 78)
 (.region [⟨(some 12), none, .mv (.c (.int .i64 0))⟩])
 .skip))
 (.region [⟨(some 79), none, .faddr 7 (.t 4)⟩, ⟨(some 80), none, .load false 1 (.t 79)⟩, ⟨(some 81), none, .mv (.t 12)⟩, ⟨(some 82), none, .call QaV [(.t 80), (.t 81)]⟩, ⟨(some 83), none, .faddr 7 (.t 4)⟩, ⟨none, none, .store 1 (.t 83) (.t 82)⟩]))
 (.seq (.region [⟨(some 85), none, .bin .eql (.t 53) (.c (.str [115, 45, 109, 97, 120, 97, 103, 101]))⟩, ⟨(some 84), none, .mv (.t 85)⟩])
 (.cond (.t 84)
 (.seq (.seq (.region [⟨(some 86), none, .mv (.t 13)⟩, ⟨(some 87), none, .un .not (.t 86)⟩])
 (.cond (.t 87)
 (.region [⟨(some 12), none, .mv (.c (.int .i64 0))⟩])
 .skip))
 (.region [⟨(some 88), none, .faddr 8 (.t 4)⟩, ⟨(some 89), none, .load false 1 (.t 88)⟩, ⟨(some 90), none, .mv (.t 12)⟩, ⟨(some 91), none, .call QaV [(.t 89), (.t 90)]⟩, ⟨(some 92), none, .faddr 8 (.t 4)⟩, ⟨none, none, .store 1 (.t 92) (.t 91)⟩]))
 (.seq (.region [⟨(some 94), none, .bin .eql (.t 53) (.c (.str [115, 116, 97, 108, 101, 45, 119, 104, 105, 108, 101, 45, 114, 101, 118, 97, 108, 105, 100, 97, 116, 101]))⟩, ⟨(some 93), none, .mv (.t 94)⟩])
 (.cond (.t 93)
 (.seq (.region [⟨(some 95), none, .mv (.t 13)⟩])
 (.cond (.t 95)
 (.region [⟨(some 96), none, .faddr 9 (.t 4)⟩, ⟨(some 97), none, .load false 1 (.t 96)⟩, ⟨(some 98), none, .mv (.t 12)⟩, ⟨(some 99), none, .call QaV [(.t 97), (.t 98)]⟩, ⟨(some 100), none, .faddr 9 (.t 4)⟩, ⟨none, none, .store 1 (.t 100) (.t 99)⟩])
 .skip))
 (.seq (.region [⟨(some 102), none, .bin .eql (.t 53) (.c (.str [115, 116, 97, 108, 101, 45, 105, 102, 45, 101, 114, 114, 111, 114]))⟩, ⟨(some 101), none, .mv (.t 102)⟩])
 (.cond (.t 101)
 (.seq (.region [⟨(some 103), none, .mv (.t 13)⟩])
 (.cond (.t 103)
 (.region [⟨(some 104), none, .faddr 10 (.t 4)⟩, ⟨(some 105), none, .load false 1 (.t 104)⟩, ⟨(some 106), none, .mv (.t 12)⟩, ⟨(some 107), none, .call QaV [(.t 105), (.t 106)]⟩, ⟨(some 108), none, .faddr 10 (.t 4)⟩, ⟨none, none, .store 1 (.t 108) (.t 107)⟩])
 .skip))
 (.seq (.region [⟨(some 110), none, .bin .eql (.t 53) (.c (.str [109, 105, 110, 45, 102, 114, 101, 115, 104]))⟩, ⟨(some 109), none, .mv (.t 110)⟩])
 (.cond (.t 109)
 (.seq (.region [⟨(some 111), none, .mv (.t 13)⟩])
 (.cond (.t 111)
 (.region [⟨(some 112), none, .faddr 11 (.t 4)⟩, ⟨(some 113), none, .load false 1 (.t 112)⟩, ⟨(some 114), none, .mv (.t 12)⟩, ⟨(some 115), none, .call QaV [(.t 113), (.t 114)]⟩, ⟨(some 116), none, .faddr 11 (.t 4)⟩, ⟨none, none, .store 1 (.t 116) (.t 115)⟩])
 .skip))
 (.seq (.region [⟨(some 118), none, .bin .eql (.t 53) (.c (.str [109, 97, 120, 45, 115, 116, 97, 108, 101]))⟩, ⟨(some 117), none, .mv (.t 118)⟩])
 (.cond (.t 117)
 (.seq (.region [⟨(some 119), none, .mv (.t 10)⟩, ⟨(some 120), none, .un .not (.t 119)⟩])
 (.cond (.t 120)
 (.region [⟨(some 121), none, .faddr 12 (.t 4)⟩, ⟨(some 122), none, .load false 1 (.t 121)⟩, ⟨(some 123), none, .call QaV [(.t 122), (.c (.int .i64 2147483648))]⟩, ⟨(some 124), none, .faddr 12 (.t 4)⟩, ⟨none, none, .store 1 (.t 124) (.t 123)⟩])
 (.seq (.region [⟨(some 125), none, .mv (.t 13)⟩])
 (.cond (.t 125)
 (.region [⟨(some 126), none, .faddr 12 (.t 4)⟩, ⟨(some 127), none, .load false 1 (.t 126)⟩, ⟨(some 128), none, .mv (.t 12)⟩, ⟨(some 129), none, .call QaV [(.t 127), (.t 128)]⟩, ⟨(some 130), none, .faddr 12 (.t 4)⟩, ⟨none, none, .store 1 (.t 130) (.t 129)⟩])
 .skip))))
 .skip)))))))))))))))))))))))))))))))))
 (.region [⟨(some 29), none, .mv (.t 7)⟩, ⟨(some 30), none, .bin .add (.t 29) (.c (.int .i64 1))⟩, ⟨(some 7), none, .mv (.t 30)⟩])))
def Qj6 (L : QL) (K : QK) (N0 : QN) (e : Env) (h : Heap) : Prop :=
 (wi F L (.len 1 (.c (e 5))) E0 h fun v27 h =>
 (wi F L (.bin .lss (.c (e 7)) (.c v27)) E0 h fun v28 h =>
 (wb v28
 (QuF L K N0 (upd (upd (upd (upd e 25 (e 7)) 26 (e 5)) 27 v27) 28 v28) (e 4) (e 5) (e 7) h)
 (Qnz L K (e 2) (e 4) h))))
theorem Qx0 {L : QL} {K : QK} (I : Nat → Env → Heap → Prop) (hr : ∀ n e h, I n e h → Qj6 L K (fun e' h' => ∃ m, m < n ∧ I m e' h') e h) {n : Nat} {e : Env} {h : Heap} (hi : I n e h) : Wl F L Qr1 (QrF L K) e h :=
  wloopp (b := Qj6 L K) I (fun _ _ _ => by kernel_rfl) hr hi
def Qu0 (L : QL) (K : QK) (e : Env) (h : Heap) : Prop :=
 (Wl F L Qr1 (QrF L K) (upd e 7 (.int .i64 0)) h)
def Qtd (L : QL) (K : QK) (a0 v2 v4 v14 v17 : V) (h : Heap) : Prop :=
 (wi F L (.ext 0 (.c v17)) E0 h fun v18 h =>
 (wi F L (.ext 1 (.c v17)) E0 h fun v19 h =>
 (wi F L (.un .not (.c v19)) E0 h fun v21 h =>
 (wb v21
 (wi F L (.faddr 0 (.c v4)) E0 h fun v22 h =>
 (wi F L (.store 1 (.c v22) (.c (.bool true))) E0 h fun _ h =>
 (wi F L (.faddr 1 (.c v4)) E0 h fun v23 h =>
 (wi F L (.store 1 (.c v23) (.c (.bool true))) E0 h fun _ h =>
 (wi F L (.load true 13 (.c v4)) E0 h fun v24 h =>
 (wi F L (.store 13 (.c v2) (.c v24)) E0 h fun _ h =>
 (∃ v, Qa h (Qd [v2, (.bool false)]) [.cell 0 true 13, .tmp 1] = some v ∧ K v h)))))))
 (Qu0 L K (upd (upd (upd (upd (upd (upd (upd (upd (upd (upd (upd (upd (upd (Qd [a0]) 2 v2) 3 (.bool false)) 14 v14) 4 v4) 16 a0) 17 v17) 15 v17) 18 v18) 19 v19) 5 v18) 6 v19) 20 v19) 21 v21)  h)))))
def Qum (L : QL) (K : QK) (a0 v2 v14 : V) (h : Heap) : Prop :=
 (wi F L (.boxz [(.bool false), (.bool false), (.bool false), (.bool false), (.bool false), (.bool false), (.bool false), (.int .i64 0), (.int .i64 0), (.int .i64 0), (.int .i64 0), (.int .i64 0), (.int .i64 0)]) E0 h fun v4 h =>
 (wi F L (.store 13 (.c v4) (.c v14)) E0 h fun _ h =>
 (wi F L (.call Qc4 [(.c a0)]) E0 h fun v17 h =>
 (Qtd L K a0 v2 v4 v14 v17 h))))
def Qm6 (L : QL) (K : QK) (a0 : V) (h : Heap) : Prop :=
 (wi F L (.boxz [(.bool false), (.bool false), (.bool false), (.bool false), (.bool false), (.bool false), (.bool false), (.int .i64 0), (.int .i64 0), (.int .i64 0), (.int .i64 0), (.int .i64 0), (.int .i64 0)]) E0 h fun v2 h =>
 (wi F L (.call Qen []) E0 h fun v14 h =>
 (Qum L K a0 v2 v14 h)))
theorem Qzd {L : QL} {K : QK} {a0 : V} {h : Heap} (hp : Qm6 L K a0 h) : Cf F L Qfr [a0] h K :=
  wcallp QyW (of_decide_eq_true (by kernel_rfl)) (p := Qm6 L K a0 h) (by kernel_rfl) hp
def QnS (L : QL) (K : QK) (h : Heap) : Prop :=
 (wi F L (.boxz [(.bool false), (.bool false), (.bool false), (.bool false), (.bool false), (.bool false), (.bool false), (.int .i64 0), (.int .i64 0), (.int .i64 0), (.int .i64 0), (.int .i64 0), (.int .i64 0)]) E0 h fun v0 h =>
 (wi F L (.build [(.bool false), (.bool false), (.bool false), (.bool false), (.bool false), (.bool false), (.bool false), (.int .i64 0), (.int .i64 0), (.int .i64 0), (.int .i64 0), (.int .i64 0), (.int .i64 0)] [(7, 1, (.c (.int .i64 (-1)))), (8, 1, (.c (.int .i64 (-1)))), (9, 1, (.c (.int .i64 (-1)))), (10, 1, (.c (.int .i64 (-1)))), (11, 1, (.c (.int .i64 (-1)))), (12, 1, (.c (.int .i64 (-1))))]) E0 h fun v1 h =>
 (wi F L (.store 13 (.c v0) (.c v1)) E0 h fun _ h =>
 (∃ v, Qa h (Qd [v0]) [.cell 0 true 13] = some v ∧ K v h))))
theorem QDl {L : QL} {K : QK} {h : Heap} (hp : QnS L K  h) : Cf F L Qen [] h K :=
  wcallp Qy7 (of_decide_eq_true (by kernel_rfl)) (p := QnS L K  h) (by kernel_rfl) hp
def Qg7 (L : QL) (K : QK) (v3 : V) (h : Heap) : Prop :=
 (∃ v, some v3 = some v ∧ K v h)
def QiA (L : QL) (K : QK) (N0 : QN) (e : Env) (v4 : V) (h : Heap) : Prop :=
 (wi F L (.bin .add (.c v4) (.c (.int .i64 1))) E0 h fun v11 h =>
 (N0 (upd (upd (upd e 10 v4) 11 v11) 4 v11) h))
def QgF (L : QL) (K : QK) (N0 : QN) (e : Env) (v3 v4 v5 : V) (h : Heap) : Prop :=
 (wi F L (.bsl 1 [(.c v5)]) E0 h fun v25 h =>
 (wi F L (.toStr (.c v25)) E0 h fun v26 h =>
 (wi F L (.bin .add (.c v3) (.c v26)) E0 h fun v27 h =>
 (QiA L K N0 (upd (upd (upd (upd (upd (upd e 23 v3) 24 v5) 25 v25) 26 v26) 27 v27) 3 v27) v4 h))))
def QiI (L : QL) (K : QK) (N0 : QN) (e : Env) (v0 v3 v4 : V) (h : Heap) : Prop :=
 (wi F L (.ixStr (.c v0) (.c v4)) E0 h fun v14 h =>
 (wi F L (.bin .geq (.c v14) (.c (.int .u8 65))) E0 h fun v16 h =>
 (wg v16 true (wi F L (.mv (.c v14)) E0 h) h fun v18 h =>
 (wg v16 true (wi F L (.bin .leq (.c v18) (.c (.int .u8 90))) E0 h) h fun v19 h =>
 (wi F L (.pick (.c v16) (.c v19) (.c (.bool false))) E0 h fun v20 h =>
 (wb v20
 (wi F L (.bin .add (.c v14) (.c (.int .u8 32))) E0 h fun v22 h =>
 (QgF L K N0 (upd (upd (upd (upd (upd (upd (upd (upd (upd (upd (upd (upd (upd e 12 v0) 13 v4) 14 v14) 5 v14) 15 v14) 16 v16) 17 v16) 18 v18) 19 v19) 20 v20) 21 v14) 22 v22) 5 v22) v3 v4 v22 h))
 (QgF L K N0 (upd (upd (upd (upd (upd (upd (upd (upd (upd (upd e 12 v0) 13 v4) 14 v14) 5 v14) 15 v14) 16 v16) 17 v16) 18 v18) 19 v19) 20 v20) v3 v4 v14 h)))))))
def QrD (L : QL) (K : QK) : X → Env → Heap → Prop := (fun x => (seqX (fun e h => Qg7 L K (e 3) h) (Qy QjC.results K)) (X.out 0 x))
def QrE : C :=
 (.seq (.seq (.region [⟨(some 6), none, .mv (.t 4)⟩, ⟨(some 7), none, .mv (.t 0)⟩, ⟨(some 8), none, .len 0 (.t 7)⟩, ⟨(some 9), none, .bin .lss (.t 6) (.t 8)⟩])
 (.cond (.t 9)
 .skip
 (.exit 0)))
 (.seq (.block 1 (.seq (.region [⟨(some 12), none, .mv (.t 0)⟩, ⟨(some 13), none, .mv (.t 4)⟩, ⟨(some 14), none, .ixStr (.t 12) (.t 13)⟩, ⟨(some 5), none, .mv (.t 14)⟩])
 (.seq (.seq (.region [⟨(some 15), none, .mv (.t 5)⟩, ⟨(some 16), none, .bin .geq (.t 15) (.c (.int .u8 65))⟩, ⟨(some 17), none, .mv (.t 16)⟩, ⟨(some 18), (some (17, true)), .mv (.t 5)⟩, ⟨(some 19), (some (17, true)), .bin .leq (.t 18) (.c (.int .u8 90))⟩, ⟨(some 20), none, .pick (.t 17) (.t 19) (.c (.bool false))⟩])
 (.cond (.t 20)
 (.region [⟨(some 21), none, .mv (.t 5)⟩, ⟨(some 22), none, .bin .add (.t 21) (.c (.int .u8 32))⟩, ⟨(some 5), none, .mv (.t 22)⟩])
 .skip))
 (.region [⟨(some 23), none, .mv (.t 3)⟩, ⟨(some 24), none, .mv (.t 5)⟩, ⟨(some 25), none, .bsl 1 [(.t 24)]⟩, ⟨(some 26), none, .toStr (.t 25)⟩, ⟨(some 27), none, .bin .add (.t 23) (.t 26)⟩, ⟨(some 3), none, .mv (.t 27)⟩]))))
 (.region [⟨(some 10), none, .mv (.t 4)⟩, ⟨(some 11), none, .bin .add (.t 10) (.c (.int .i64 1))⟩, ⟨(some 4), none, .mv (.t 11)⟩])))
def QqA (L : QL) (K : QK) (N0 : QN) (e : Env) (h : Heap) : Prop :=
 (wi F L (.len 0 (.c (e 0))) E0 h fun v8 h =>
 (wi F L (.bin .lss (.c (e 4)) (.c v8)) E0 h fun v9 h =>
 (wb v9
 (QiI L K N0 (upd (upd (upd (upd e 6 (e 4)) 7 (e 0)) 8 v8) 9 v9) (e 0) (e 3) (e 4) h)
 (Qg7 L K (e 3) h))))
theorem QBb {L : QL} {K : QK} (I : Nat → Env → Heap → Prop) (hr : ∀ n e h, I n e h → QqA L K (fun e' h' => ∃ m, m < n ∧ I m e' h') e h) {n : Nat} {e : Env} {h : Heap} (hi : I n e h) : Wl F L QrE (QrD L K) e h :=
  wloopp (b := QqA L K) I (fun _ _ _ => by kernel_rfl) hr hi
def Qqk (L : QL) (K : QK) (a0 : V) (h : Heap) : Prop :=
 (Wl F L QrE (QrD L K) (upd (upd (upd (Qd [a0]) 2 (.str [])) 3 (.str [])) 4 (.int .i64 0)) h)
theorem QH9 {L : QL} {K : QK} {a0 : V} {h : Heap} (hp : Qqk L K a0 h) : Cf F L Qb4 [a0] h K :=
  wcallp QJ7 (of_decide_eq_true (by kernel_rfl)) (p := Qqk L K a0 h) (by kernel_rfl) hp
def Qlc (L : QL) (K : QK) (h : Heap) : Prop :=
 (∃ v, Qa h (Qd [(.int .i64 0), (.bool false)]) [.tmp 0, .tmp 1] = some v ∧ K v h)
def Qra (L : QL) (K : QK) (N0 : QN) (e : Env) (v6 : V) (h : Heap) : Prop :=
 (wi F L (.bin .add (.c v6) (.c (.int .i64 1))) E0 h fun v113 h =>
 (N0 (upd (upd (upd e 112 v6) 113 v113) 6 v113) h))
def Qih (L : QL) (K : QK) (N0 : QN) (e : Env) (v6 v8 v9 : V) (h : Heap) : Prop :=
 (wi F L (.call Qdg []) E0 h fun v173 h' => Ext h h' ∧
 (wi F L (.slstr (.c v8) (some (.c (.int .i64 5))) (some (.c (.int .i64 8)))) E0 h' fun v175 h => Ext h' h ∧
 (wi F L (.call QcK [(.c v173), (.c v175)]) E0 h fun v176 h' => Ext h h' ∧
 (wi F L (.bin .add (.c v176) (.c (.int .i64 1))) E0 h' fun v177 h => Ext h' h ∧
 (wi F L (.slstr (.c v8) (some (.c (.int .i64 2))) (some (.c (.int .i64 4)))) E0 h fun v179 h' => Ext h h' ∧
 (wi F L (.call QaT [(.c v179)]) E0 h' fun v180 h => Ext h' h ∧
 (wi F L (.slstr (.c v8) (some (.c (.int .i64 12))) (some (.c (.int .i64 20)))) E0 h fun v182 h' => Ext h h' ∧
 (wi F L (.call Qdo [(.c v182)]) E0 h' fun v183 h => Ext h' h ∧
 (wi F L (.call Qcd [(.c v6), (.c v9), (.c v177), (.c v180), (.c v183)]) E0 h fun v184 h' => Ext h h' ∧
 (wi F L (.ext 0 (.c v184)) E0 h' fun v185 h => Ext h' h ∧
 (wi F L (.ext 1 (.c v184)) E0 h fun v186 h' => Ext h h' ∧
 (∃ v, Qa h' (Qd [v185, v186]) [.tmp 0, .tmp 1] = some v ∧ K v h'))))))))))))
def QlP (L : QL) (K : QK) (N0 : QN) (e : Env) (v6 v8 : V) (h : Heap) : Prop :=
 (wi F L (.slstr (.c v8) (some (.c (.int .i64 9))) (some (.c (.int .i64 11)))) E0 h fun v161 h =>
 (wi F L (.call QaT [(.c v161)]) E0 h fun v162 h =>
 (wi F L (.bin .geq (.c v162) (.c (.int .i64 70))) E0 h fun v164 h =>
 (wb v164
 (wi F L (.bin .add (.c v162) (.c (.int .i64 1900))) E0 h fun v166 h =>
 (Qih L K N0 (upd (upd (upd (upd (upd (upd (upd (upd (upd e 160 v8) 161 v161) 162 v162) 9 v162) 163 v162) 164 v164) 165 v162) 166 v166) 9 v166) v6 v8 v166 h))
 (wi F L (.bin .geq (.c v162) (.c (.int .i64 0))) E0 h fun v168 h =>
 (wb v168
 (wi F L (.bin .add (.c v162) (.c (.int .i64 2000))) E0 h fun v170 h =>
 (Qih L K N0 (upd (upd (upd (upd (upd (upd (upd (upd (upd (upd (upd e 160 v8) 161 v161) 162 v162) 9 v162) 163 v162) 164 v164) 167 v162) 168 v168) 169 v162) 170 v170) 9 v170) v6 v8 v170 h))
 (Qih L K N0 (upd (upd (upd (upd (upd (upd (upd (upd e 160 v8) 161 v161) 162 v162) 9 v162) 163 v162) 164 v164) 167 v162) 168 v168) v6 v8 v162 h)))))))
def QoZ (L : QL) (K : QK) (N0 : QN) (e : Env) (v0 v6 v7 : V) (h : Heap) : Prop :=
 (wi F L (.slstr (.c v0) (some (.c v7)) none) E0 h fun v136 h =>
 (wi F L (.slstr (.c v136) none (some (.c (.int .i64 2)))) E0 h fun v138 h =>
 (wi F L (.bin .neq (.c v138) (.c (.str [44, 32]))) E0 h fun v139 h =>
 (wg v139 false (wi F L (.mv (.c v136)) E0 h) h fun v141 h =>
 (wg v139 false (wi F L (.ixStr (.c v141) (.c (.int .i64 4))) E0 h) h fun v142 h =>
 (wg v139 false (wi F L (.bin .neq (.c v142) (.c (.int .u8 45))) E0 h) h fun v143 h =>
 (wi F L (.pick (.c v139) (.c (.bool true)) (.c v143)) E0 h fun v144 h =>
 (wg v144 false (wi F L (.mv (.c v136)) E0 h) h fun v146 h =>
 (wg v144 false (wi F L (.ixStr (.c v146) (.c (.int .i64 8))) E0 h) h fun v147 h =>
 (wg v144 false (wi F L (.bin .neq (.c v147) (.c (.int .u8 45))) E0 h) h fun v148 h =>
 (wi F L (.pick (.c v144) (.c (.bool true)) (.c v148)) E0 h fun v149 h =>
 (wg v149 false (wi F L (.mv (.c v136)) E0 h) h fun v151 h =>
 (wg v149 false (wi F L (.ixStr (.c v151) (.c (.int .i64 11))) E0 h) h fun v152 h =>
 (wg v149 false (wi F L (.bin .neq (.c v152) (.c (.int .u8 32))) E0 h) h fun v153 h =>
 (wi F L (.pick (.c v149) (.c (.bool true)) (.c v153)) E0 h fun v154 h =>
 (wg v154 false (wi F L (.mv (.c v136)) E0 h) h fun v156 h =>
 (wg v154 false (wi F L (.slstr (.c v156) (some (.c (.int .i64 20))) none) E0 h) h fun v157 h =>
 (wg v154 false (wi F L (.bin .neq (.c v157) (.c (.str [32, 71, 77, 84]))) E0 h) h fun v158 h =>
 (wi F L (.pick (.c v154) (.c (.bool true)) (.c v158)) E0 h fun v159 h =>
 (wb v159
 (∃ v, Qa h (Qd [(.int .i64 0), (.bool false)]) [.tmp 0, .tmp 1] = some v ∧ K v h)
 (QlP L K N0 (upd (upd (upd (upd (upd (upd (upd (upd (upd (upd (upd (upd (upd (upd (upd (upd (upd (upd (upd (upd (upd (upd (upd (upd (upd (upd (upd e 134 v0) 135 v7) 136 v136) 8 v136) 137 v136) 138 v138) 139 v139) 140 v139) 141 v141) 142 v142) 143 v143) 144 v144) 145 v144) 146 v146) 147 v147) 148 v148) 149 v149) 150 v149) 151 v151) 152 v152) 153 v153) 154 v154) 155 v154) 156 v156) 157 v157) 158 v158) 159 v159) v6 v136 h)))))))))))))))))))))
def QjK (L : QL) (K : QK) (N0 : QN) (e : Env) (v0 v5 v6 : V) (h : Heap) : Prop :=
 (wi F L (.ixaSl 1 (.c v5) (.c v6)) E0 h fun v116 h =>
 (wi F L (.load false 1 (.c v116)) E0 h fun v117 h =>
 (wi F L (.len 0 (.c v117)) E0 h fun v118 h =>
 (wi F L (.len 0 (.c v0)) E0 h fun v120 h' => Ext h h' ∧
 (wi F L (.bin .add (.c v118) (.c (.int .i64 24))) E0 h' fun v122 h => Ext h' h ∧
 (wi F L (.bin .neq (.c v120) (.c v122)) E0 h fun v123 h' => Ext h h' ∧
 (wgd v123 false (wi F L (.mv (.c v0)) E0 h') h' fun v125 h =>
 (wgd v123 false (wi F L (.mv (.c v118)) E0 h) h fun v126 h' =>
 (wgd v123 false (wi F L (.slstr (.c v125) none (some (.c v126))) E0 h') h' fun v127 h =>
 (wgd v123 false (wi F L (.mv (.c v5)) E0 h) h fun v128 h' =>
 (wgd v123 false (wi F L (.mv (.c v6)) E0 h') h' fun v129 h =>
 (wgd v123 false (wi F L (.ixaSl 1 (.c v128) (.c v129)) E0 h) h fun v130 h' =>
 (wgd v123 false (wi F L (.load false 1 (.c v130)) E0 h') h' fun v131 h =>
 (wg v123 false (wi F L (.bin .neq (.c v127) (.c v131)) E0 h) h fun v132 h =>
 (wi F L (.pick (.c v123) (.c (.bool true)) (.c v132)) E0 h fun v133 h =>
 (wb v133
 (Qra L K N0 (upd (upd (upd (upd (upd (upd (upd (upd (upd (upd (upd (upd (upd (upd (upd (upd (upd (upd (upd (upd (upd e 114 v5) 115 v6) 116 v116) 117 v117) 118 v118) 7 v118) 119 v0) 120 v120) 121 v118) 122 v122) 123 v123) 124 v123) 125 v125) 126 v126) 127 v127) 128 v128) 129 v129) 130 v130) 131 v131) 132 v132) 133 v133) v6 h)
 (QoZ L K N0 (upd (upd (upd (upd (upd (upd (upd (upd (upd (upd (upd (upd (upd (upd (upd (upd (upd (upd (upd (upd (upd e 114 v5) 115 v6) 116 v116) 117 v117) 118 v118) 7 v118) 119 v0) 120 v120) 121 v118) 122 v122) 123 v123) 124 v123) 125 v125) 126 v126) 127 v127) 128 v128) 129 v129) 130 v130) 131 v131) 132 v132) 133 v133) v0 v6 v118 h)))))))))))))))))
def QsS (L : QL) (K : QK) : X → Env → Heap → Prop := (fun x => (seqX (fun e h => Qlc L K  h) (Qy QiZ.results K)) (X.out 0 x))
def Qsj : C :=
 (.seq (.seq (.region [⟨(some 110), none, .mv (.t 6)⟩, ⟨(some 111), none, .bin .lss (.t 110) (.c (.int .i64 7))⟩])
 (.cond (.t 111)
 .skip
 (.exit 0)))
 (.seq (.block 1 (.seq (.region [⟨(some 114), none, .mv (.t 5)⟩, ⟨(some 115), none, .mv (.t 6)⟩, ⟨(some 116), none, .ixaSl 1 (.t 114) (.t 115)⟩, ⟨(some 117), none, .load false 1 (.t 116)⟩, ⟨(some 118), none, .len 0 (.t 117)⟩, ⟨(some 7), none, .mv (.t 118)⟩])
 (.seq (.seq (.dregion [⟨(some 119), none, .mv (.t 0)⟩, ⟨(some 120), none, .len 0 (.t 119)⟩, ⟨(some 121), none, .mv (.t 7)⟩, ⟨(some 122), none, .bin .add (.t 121) (.c (.int .i64 24))⟩, ⟨(some 123), none, .bin .neq (.t 120) (.t 122)⟩, ⟨(some 124), none, .mv (.t 123)⟩, ⟨(some 125), (some (124, false)), .mv (.t 0)⟩, ⟨(some 126), (some (124, false)), .mv (.t 7)⟩, ⟨(some 127), (some (124, false)), .slstr (.t 125) none (some (.t 126))⟩, ⟨(some 128), (some (124, false)), .mv (.t 5)⟩, ⟨(some 129), (some (124, false)), .mv (.t 6)⟩, ⟨(some 130), (some (124, false)), .ixaSl 1 (.t 128) (.t 129)⟩, ⟨(some 131), (some (124, false)), .load false 1 (.t 130)⟩] [⟨(some 132), (some (124, false)), .bin .neq (.t 127) (.t 131)⟩, ⟨(some 133), none, .pick (.t 124) (.c (.bool true)) (.t 132)⟩])
 (.cond (.t 133)
 (.exit 1)
 .skip))
 (.seq (.region [⟨(some 134), none, .mv (.t 0)⟩, ⟨(some 135), none, .mv (.t 7)⟩, ⟨(some 136), none, .slstr (.t 134) (some (.t 135)) none⟩, ⟨(some 8), none, .mv (.t 136)⟩])
 (.seq (.seq (.region [⟨(some 137), none, .mv (.t 8)⟩, ⟨(some 138), none, .slstr (.t 137) none (some (.c (.int .i64 2)))⟩, ⟨(some 139), none, .bin .neq (.t 138) (.c (.str [44, 32]))⟩, ⟨(some 140), none, .mv (.t 139)⟩, ⟨(some 141), (some (140, false)), .mv (.t 8)⟩, ⟨(some 142), (some (140, false)), .ixStr (.t 141) (.c (.int .i64 4))⟩, ⟨(some 143), (some (140, false)), .bin .neq (.t 142) (.c (.int .u8 45))⟩, ⟨(some 144), none, .pick (.t 140) (.c (.bool true)) (.t 143)⟩, ⟨(some 145), none, .mv (.t 144)⟩, ⟨(some 146), (some (145, false)), .mv (.t 8)⟩, ⟨(some 147), (some (145, false)), .ixStr (.t 146) (.c (.int .i64 8))⟩, ⟨(some 148), (some (145, false)), .bin .neq (.t 147) (.c (.int .u8 45))⟩, ⟨(some 149), none, .pick (.t 145) (.c (.bool true)) (.t 148)⟩, ⟨(some 150), none, .mv (.t 149)⟩, ⟨(some 151), (some (150, false)), .mv (.t 8)⟩, ⟨(some 152), (some (150, false)), .ixStr (.t 151) (.c (.int .i64 11))⟩, ⟨(some 153), (some (150, false)), .bin .neq (.t 152) (.c (.int .u8 32))⟩, ⟨(some 154), none, .pick (.t 150) (.c (.bool true)) (.t 153)⟩, ⟨(some 155), none, .mv (.t 154)⟩, ⟨(some 156), (some (155, false)), .mv (.t 8)⟩, ⟨(some 157), (some (155, false)), .slstr (.t 156) (some (.c (.int .i64 20))) none⟩, ⟨(some 158), (some (155, false)), .bin .neq (.t 157) (.c (.str [32, 71, 77, 84]))⟩, ⟨(some 159), none, .pick (.t 155) (.c (.bool true)) (.t 158)⟩])
 (.cond (.t 159)
 (.seq (.region [⟨(some 2), none, .mv (.c (.int .i64 0))⟩, ⟨(some 3), none, .mv (.c (.bool false))⟩])
 .ret)
 .skip))
 (.seq (.region [⟨(some 160), none, .mv (.t 8)⟩, ⟨(some 161), none, .slstr (.t 160) (some (.c (.int .i64 9))) (some (.c (.int .i64 11)))⟩, ⟨(some 162), none, .call QaT [(.t 161)]⟩, ⟨(some 9), none, .mv (.t 162)⟩])
 (.seq (.seq (.region [⟨(some 163), none, .mv (.t 9)⟩, ⟨(some 164), none, .bin .geq (.t 163) (.c (.int .i64 70))⟩])
 (.cond (.t 164)
 (.region [⟨(some 165), none, .mv (.t 9)⟩, ⟨(some 166), none, .bin .add (.t 165) (.c (.int .i64 1900))⟩, ⟨(some 9), none, .mv (.t 166)⟩])
 (.seq (.region [⟨(some 167), none, .mv (.t 9)⟩, ⟨(some 168), none, .bin .geq (.t 167) (.c (.int .i64 0))⟩])
 (.cond (.t 168)
 (.region [⟨(some 169), none, .mv (.t 9)⟩, ⟨(some 170), none, .bin .add (.t 169) (.c (.int .i64 2000))⟩, ⟨(some 9), none, .mv (.t 170)⟩])
 .skip))))
 (.seq (.dregion [⟨(some 171), none, .mv (.t 6)⟩, ⟨(some 172), none, .mv (.t 9)⟩, ⟨(some 173), none, .call Qdg []⟩, ⟨(some 174), none, .mv (.t 8)⟩, ⟨(some 175), none, .slstr (.t 174) (some (.c (.int .i64 5))) (some (.c (.int .i64 8)))⟩, ⟨(some 176), none, .call QcK [(.t 173), (.t 175)]⟩, ⟨(some 177), none, .bin .add (.t 176) (.c (.int .i64 1))⟩, ⟨(some 178), none, .mv (.t 8)⟩, ⟨(some 179), none, .slstr (.t 178) (some (.c (.int .i64 2))) (some (.c (.int .i64 4)))⟩, ⟨(some 180), none, .call QaT [(.t 179)]⟩, ⟨(some 181), none, .mv (.t 8)⟩, ⟨(some 182), none, .slstr (.t 181) (some (.c (.int .i64 12))) (some (.c (.int .i64 20)))⟩, ⟨(some 183), none, .call Qdo [(.t 182)]⟩, ⟨(some 184), none, .call Qcd [(.t 171), (.t 172), (.t 177), (.t 180), (.t 183)]⟩, ⟨(some 185), none, .ext 0 (.t 184)⟩, ⟨(some 186), none, .ext 1 (.t 184)⟩] [⟨(some 2), none, .mv (.t 185)⟩, ⟨(some 3), none, .mv (.t 186)⟩])
 .ret))))))))
 (.region [⟨(some 112), none, .mv (.t 6)⟩, ⟨(some 113), none, .bin .add (.t 112) (.c (.int .i64 1))⟩, ⟨(some 6), none, .mv (.t 113)⟩])))
def QkV (L : QL) (K : QK) (N0 : QN) (e : Env) (h : Heap) : Prop :=
 (wi F L (.bin .lss (.c (e 6)) (.c (.int .i64 7))) E0 h fun v111 h =>
 (wb v111
 (QjK L K N0 (upd (upd e 110 (e 6)) 111 v111) (e 0) (e 5) (e 6) h)
 (Qlc L K  h)))
theorem QDZ {L : QL} {K : QK} (I : Nat → Env → Heap → Prop) (hr : ∀ n e h, I n e h → QkV L K (fun e' h' => ∃ m, m < n ∧ I m e' h') e h) {n : Nat} {e : Env} {h : Heap} (hi : I n e h) : Wl F L Qsj (QsS L K) e h :=
  wloopp (b := QkV L K) I (fun _ _ _ => by kernel_rfl) hr hi
def QoR (L : QL) (K : QK) (e : Env) (h : Heap) : Prop :=
 (wi F L (.bsl 1 [(.c (.str [77, 111, 110, 100, 97, 121])), (.c (.str [84, 117, 101, 115, 100, 97, 121])), (.c (.str [87, 101, 100, 110, 101, 115, 100, 97, 121])), (.c (.str [84, 104, 117, 114, 115, 100, 97, 121])), (.c (.str [70, 114, 105, 100, 97, 121])), (.c (.str [83, 97, 116, 117, 114, 100, 97, 121])), (.c (.str [83, 117, 110, 100, 97, 121]))]) E0 h fun v109 h =>
 (Wl F L Qsj (QsS L K) (upd (upd (upd e 109 v109) 5 v109) 6 (.int .i64 0)) h))
def Qjy (L : QL) (K : QK) (e : Env) (v0 v4 : V) (h : Heap) : Prop :=
 (wi F L (.call Qe3 []) E0 h fun v89 h' => Ext h h' ∧
 (wi F L (.slstr (.c v0) none (some (.c (.int .i64 3)))) E0 h' fun v91 h => Ext h' h ∧
 (wi F L (.call QcK [(.c v89), (.c v91)]) E0 h fun v92 h' => Ext h h' ∧
 (wi F L (.slstr (.c v0) (some (.c (.int .i64 20))) none) E0 h' fun v94 h => Ext h' h ∧
 (wi F L (.call QaT [(.c v94)]) E0 h fun v95 h' => Ext h h' ∧
 (wi F L (.call Qdg []) E0 h' fun v96 h => Ext h' h ∧
 (wi F L (.slstr (.c v0) (some (.c (.int .i64 4))) (some (.c (.int .i64 7)))) E0 h fun v98 h' => Ext h h' ∧
 (wi F L (.call QcK [(.c v96), (.c v98)]) E0 h' fun v99 h => Ext h' h ∧
 (wi F L (.bin .add (.c v99) (.c (.int .i64 1))) E0 h fun v100 h' => Ext h h' ∧
 (wi F L (.call QaT [(.c v4)]) E0 h' fun v102 h => Ext h' h ∧
 (wi F L (.slstr (.c v0) (some (.c (.int .i64 11))) (some (.c (.int .i64 19)))) E0 h fun v104 h' => Ext h h' ∧
 (wi F L (.call Qdo [(.c v104)]) E0 h' fun v105 h => Ext h' h ∧
 (wi F L (.call Qcd [(.c v92), (.c v95), (.c v100), (.c v102), (.c v105)]) E0 h fun v106 h' => Ext h h' ∧
 (wi F L (.ext 0 (.c v106)) E0 h' fun v107 h => Ext h' h ∧
 (wi F L (.ext 1 (.c v106)) E0 h fun v108 h' => Ext h h' ∧
 (∃ v, Qa h' (Qd [v107, v108]) [.tmp 0, .tmp 1] = some v ∧ K v h'))))))))))))))))
def QpZ (L : QL) (K : QK) (e : Env) (v0 : V) (h : Heap) : Prop :=
 (wi F L (.len 0 (.c v0)) E0 h fun v60 h =>
 (wi F L (.bin .eql (.c v60) (.c (.int .i64 24))) E0 h fun v61 h =>
 (wg v61 true (wi F L (.mv (.c v0)) E0 h) h fun v63 h =>
 (wg v61 true (wi F L (.ixStr (.c v63) (.c (.int .i64 3))) E0 h) h fun v64 h =>
 (wg v61 true (wi F L (.bin .eql (.c v64) (.c (.int .u8 32))) E0 h) h fun v65 h =>
 (wi F L (.pick (.c v61) (.c v65) (.c (.bool false))) E0 h fun v66 h =>
 (wg v66 true (wi F L (.mv (.c v0)) E0 h) h fun v68 h =>
 (wg v66 true (wi F L (.ixStr (.c v68) (.c (.int .i64 7))) E0 h) h fun v69 h =>
 (wg v66 true (wi F L (.bin .eql (.c v69) (.c (.int .u8 32))) E0 h) h fun v70 h =>
 (wi F L (.pick (.c v66) (.c v70) (.c (.bool false))) E0 h fun v71 h =>
 (wg v71 true (wi F L (.mv (.c v0)) E0 h) h fun v73 h =>
 (wg v71 true (wi F L (.ixStr (.c v73) (.c (.int .i64 10))) E0 h) h fun v74 h =>
 (wg v71 true (wi F L (.bin .eql (.c v74) (.c (.int .u8 32))) E0 h) h fun v75 h =>
 (wi F L (.pick (.c v71) (.c v75) (.c (.bool false))) E0 h fun v76 h =>
 (wg v76 true (wi F L (.mv (.c v0)) E0 h) h fun v78 h =>
 (wg v76 true (wi F L (.ixStr (.c v78) (.c (.int .i64 19))) E0 h) h fun v79 h =>
 (wg v76 true (wi F L (.bin .eql (.c v79) (.c (.int .u8 32))) E0 h) h fun v80 h =>
 (wi F L (.pick (.c v76) (.c v80) (.c (.bool false))) E0 h fun v81 h =>
 (wb v81
 (wi F L (.slstr (.c v0) (some (.c (.int .i64 8))) (some (.c (.int .i64 10)))) E0 h fun v83 h =>
 (wi F L (.ixStr (.c v83) (.c (.int .i64 0))) E0 h fun v85 h =>
 (wi F L (.bin .eql (.c v85) (.c (.int .u8 32))) E0 h fun v86 h =>
 (wb v86
 (wi F L (.slstr (.c v83) (some (.c (.int .i64 1))) none) E0 h fun v88 h =>
 (Qjy L K (upd (upd (upd (upd (upd (upd (upd (upd (upd (upd (upd (upd (upd (upd (upd (upd (upd (upd (upd (upd (upd (upd (upd (upd (upd (upd (upd (upd (upd (upd (upd (upd e 59 v0) 60 v60) 61 v61) 62 v61) 63 v63) 64 v64) 65 v65) 66 v66) 67 v66) 68 v68) 69 v69) 70 v70) 71 v71) 72 v71) 73 v73) 74 v74) 75 v75) 76 v76) 77 v76) 78 v78) 79 v79) 80 v80) 81 v81) 82 v0) 83 v83) 4 v83) 84 v83) 85 v85) 86 v86) 87 v83) 88 v88) 4 v88) v0 v88 h))
 (Qjy L K (upd (upd (upd (upd (upd (upd (upd (upd (upd (upd (upd (upd (upd (upd (upd (upd (upd (upd (upd (upd (upd (upd (upd (upd (upd (upd (upd (upd (upd e 59 v0) 60 v60) 61 v61) 62 v61) 63 v63) 64 v64) 65 v65) 66 v66) 67 v66) 68 v68) 69 v69) 70 v70) 71 v71) 72 v71) 73 v73) 74 v74) 75 v75) 76 v76) 77 v76) 78 v78) 79 v79) 80 v80) 81 v81) 82 v0) 83 v83) 4 v83) 84 v83) 85 v85) 86 v86) v0 v83 h)))))
 (QoR L K (upd (upd (upd (upd (upd (upd (upd (upd (upd (upd (upd (upd (upd (upd (upd (upd (upd (upd (upd (upd (upd (upd (upd e 59 v0) 60 v60) 61 v61) 62 v61) 63 v63) 64 v64) 65 v65) 66 v66) 67 v66) 68 v68) 69 v69) 70 v70) 71 v71) 72 v71) 73 v73) 74 v74) 75 v75) 76 v76) 77 v76) 78 v78) 79 v79) 80 v80) 81 v81)  h))))))))))))))))))))
def QkD (L : QL) (K : QK) (a0 : V) (h : Heap) : Prop :=
 (wi F L (.len 0 (.c a0)) E0 h fun v11 h =>
 (wi F L (.bin .eql (.c v11) (.c (.int .i64 29))) E0 h fun v12 h =>
 (wg v12 true (wi F L (.mv (.c a0)) E0 h) h fun v14 h =>
 (wg v12 true (wi F L (.slstr (.c v14) (some (.c (.int .i64 3))) (some (.c (.int .i64 5)))) E0 h) h fun v15 h =>
 (wg v12 true (wi F L (.bin .eql (.c v15) (.c (.str [44, 32]))) E0 h) h fun v16 h =>
 (wi F L (.pick (.c v12) (.c v16) (.c (.bool false))) E0 h fun v17 h =>
 (wg v17 true (wi F L (.mv (.c a0)) E0 h) h fun v19 h =>
 (wg v17 true (wi F L (.ixStr (.c v19) (.c (.int .i64 7))) E0 h) h fun v20 h =>
 (wg v17 true (wi F L (.bin .eql (.c v20) (.c (.int .u8 32))) E0 h) h fun v21 h =>
 (wi F L (.pick (.c v17) (.c v21) (.c (.bool false))) E0 h fun v22 h =>
 (wg v22 true (wi F L (.mv (.c a0)) E0 h) h fun v24 h =>
 (wg v22 true (wi F L (.ixStr (.c v24) (.c (.int .i64 11))) E0 h) h fun v25 h =>
 (wg v22 true (wi F L (.bin .eql (.c v25) (.c (.int .u8 32))) E0 h) h fun v26 h =>
 (wi F L (.pick (.c v22) (.c v26) (.c (.bool false))) E0 h fun v27 h =>
 (wg v27 true (wi F L (.mv (.c a0)) E0 h) h fun v29 h =>
 (wg v27 true (wi F L (.ixStr (.c v29) (.c (.int .i64 16))) E0 h) h fun v30 h =>
 (wg v27 true (wi F L (.bin .eql (.c v30) (.c (.int .u8 32))) E0 h) h fun v31 h =>
 (wi F L (.pick (.c v27) (.c v31) (.c (.bool false))) E0 h fun v32 h =>
 (wg v32 true (wi F L (.mv (.c a0)) E0 h) h fun v34 h =>
 (wg v32 true (wi F L (.slstr (.c v34) (some (.c (.int .i64 25))) none) E0 h) h fun v35 h =>
 (wg v32 true (wi F L (.bin .eql (.c v35) (.c (.str [32, 71, 77, 84]))) E0 h) h fun v36 h =>
 (wi F L (.pick (.c v32) (.c v36) (.c (.bool false))) E0 h fun v37 h =>
 (wb v37
 (wi F L (.call Qe3 []) E0 h fun v38 h' => Ext h h' ∧
 (wi F L (.slstr (.c a0) none (some (.c (.int .i64 3)))) E0 h' fun v40 h => Ext h' h ∧
 (wi F L (.call QcK [(.c v38), (.c v40)]) E0 h fun v41 h' => Ext h h' ∧
 (wi F L (.slstr (.c a0) (some (.c (.int .i64 12))) (some (.c (.int .i64 16)))) E0 h' fun v43 h => Ext h' h ∧
 (wi F L (.call QaT [(.c v43)]) E0 h fun v44 h' => Ext h h' ∧
 (wi F L (.call Qdg []) E0 h' fun v45 h => Ext h' h ∧
 (wi F L (.slstr (.c a0) (some (.c (.int .i64 8))) (some (.c (.int .i64 11)))) E0 h fun v47 h' => Ext h h' ∧
 (wi F L (.call QcK [(.c v45), (.c v47)]) E0 h' fun v48 h => Ext h' h ∧
 (wi F L (.bin .add (.c v48) (.c (.int .i64 1))) E0 h fun v49 h' => Ext h h' ∧
 (wi F L (.slstr (.c a0) (some (.c (.int .i64 5))) (some (.c (.int .i64 7)))) E0 h' fun v51 h => Ext h' h ∧
 (wi F L (.call QaT [(.c v51)]) E0 h fun v52 h' => Ext h h' ∧
 (wi F L (.slstr (.c a0) (some (.c (.int .i64 17))) (some (.c (.int .i64 25)))) E0 h' fun v54 h => Ext h' h ∧
 (wi F L (.call Qdo [(.c v54)]) E0 h fun v55 h' => Ext h h' ∧
 (wi F L (.call Qcd [(.c v41), (.c v44), (.c v49), (.c v52), (.c v55)]) E0 h' fun v56 h => Ext h' h ∧
 (wi F L (.ext 0 (.c v56)) E0 h fun v57 h' => Ext h h' ∧
 (wi F L (.ext 1 (.c v56)) E0 h' fun v58 h => Ext h' h ∧
 (∃ v, Qa h (Qd [v57, v58]) [.tmp 0, .tmp 1] = some v ∧ K v h)))))))))))))))))
 (QpZ L K (upd (upd (upd (upd (upd (upd (upd (upd (upd (upd (upd (upd (upd (upd (upd (upd (upd (upd (upd (upd (upd (upd (upd (upd (upd (upd (upd (upd (upd (upd (Qd [a0]) 2 (.int .i64 0)) 3 (.bool false)) 10 a0) 11 v11) 12 v12) 13 v12) 14 v14) 15 v15) 16 v16) 17 v17) 18 v17) 19 v19) 20 v20) 21 v21) 22 v22) 23 v22) 24 v24) 25 v25) 26 v26) 27 v27) 28 v27) 29 v29) 30 v30) 31 v31) 32 v32) 33 v32) 34 v34) 35 v35) 36 v36) 37 v37) a0 h))))))))))))))))))))))))
theorem QvV {L : QL} {K : QK} {a0 : V} {h : Heap} (hp : QkD L K a0 h) : Cf F L Qdi [a0] h K :=
  wcallp QI2 (of_decide_eq_true (by kernel_rfl)) (p := QkD L K a0 h) (by kernel_rfl) hp
def QmE (L : QL) (K : QK) (a0 a1 : V) (h : Heap) : Prop :=
 (wi F L (.call Qb4 [(.c a0)]) E0 h fun v6 h =>
 (wi F L (.call Qb4 [(.c a1)]) E0 h fun v8 h =>
 (wi F L (.bin .eql (.c v6) (.c v8)) E0 h fun v9 h =>
 (∃ v, some v9 = some v ∧ K v h))))
theorem Qzs {L : QL} {K : QK} {a0 a1 : V} {h : Heap} (hp : QmE L K a0 a1 h) : Cf F L QdA [a0, a1] h K :=
  wcallp QBG (of_decide_eq_true (by kernel_rfl)) (p := QmE L K a0 a1 h) (by kernel_rfl) hp
def Qff (L : QL) (K : QK) (v0 : V) (h : Heap) : Prop :=
 (∃ v, some v0 = some v ∧ K v h)
def Qgg (L : QL) (K : QK) (N0 : QN) (e : Env) (v0 : V) (h : Heap) : Prop :=
 (wi F L (.len 0 (.c v0)) E0 h fun v26 h =>
 (wi F L (.bin .sub (.c v26) (.c (.int .i64 1))) E0 h fun v27 h =>
 (wi F L (.slstr (.c v0) none (some (.c v27))) E0 h fun v28 h =>
 (N0 (upd (upd (upd (upd (upd (upd e 24 v0) 25 v0) 26 v26) 27 v27) 28 v28) 0 v28) h))))
def Qpc (L : QL) (K : QK) : X → Env → Heap → Prop := (fun x => (seqX (fun e h => Qff L K (e 0) h) (Qy QhK.results K)) (X.out 2 x))
def Qo2 : C :=
 (.seq (.seq (.region [⟨(some 13), none, .mv (.t 0)⟩, ⟨(some 14), none, .len 0 (.t 13)⟩, ⟨(some 15), none, .bin .gtr (.t 14) (.c (.int .i64 0))⟩, ⟨(some 16), none, .mv (.t 15)⟩, ⟨(some 17), (some (16, true)), .mv (.t 0)⟩, ⟨(some 18), (some (16, true)), .mv (.t 0)⟩, ⟨(some 19), (some (16, true)), .len 0 (.t 18)⟩, ⟨(some 20), (some (16, true)), .bin .sub (.t 19) (.c (.int .i64 1))⟩, ⟨(some 21), (some (16, true)), .ixStr (.t 17) (.t 20)⟩, ⟨(some 22), (some (16, true)), .call Qdw [(.t 21)]⟩, ⟨(some 23), none, .pick (.t 16) (.t 22) (.c (.bool false))⟩])
 (.cond (.t 23)
 .skip
 (.exit 2)))
 (.block 3 (.region [⟨(some 24), none, .mv (.t 0)⟩, ⟨(some 25), none, .mv (.t 0)⟩, ⟨(some 26), none, .len 0 (.t 25)⟩, ⟨(some 27), none, .bin .sub (.t 26) (.c (.int .i64 1))⟩, ⟨(some 28), none, .slstr (.t 24) none (some (.t 27))⟩, ⟨(some 0), none, .mv (.t 28)⟩])))
def Qmb (L : QL) (K : QK) (N0 : QN) (e : Env) (h : Heap) : Prop :=
 (wi F L (.len 0 (.c (e 0))) E0 h fun v14 h =>
 (wi F L (.bin .gtr (.c v14) (.c (.int .i64 0))) E0 h fun v15 h =>
 (wg v15 true (wi F L (.mv (.c (e 0))) E0 h) h fun v17 h =>
 (wg v15 true (wi F L (.mv (.c (e 0))) E0 h) h fun v18 h =>
 (wg v15 true (wi F L (.len 0 (.c v18)) E0 h) h fun v19 h =>
 (wg v15 true (wi F L (.bin .sub (.c v19) (.c (.int .i64 1))) E0 h) h fun v20 h =>
 (wg v15 true (wi F L (.ixStr (.c v17) (.c v20)) E0 h) h fun v21 h =>
 (wg v15 true (wi F L (.call Qdw [(.c v21)]) E0 h) h fun v22 h =>
 (wi F L (.pick (.c v15) (.c v22) (.c (.bool false))) E0 h fun v23 h =>
 (wb v23
 (Qgg L K N0 (upd (upd (upd (upd (upd (upd (upd (upd (upd (upd (upd e 13 (e 0)) 14 v14) 15 v15) 16 v15) 17 v17) 18 v18) 19 v19) 20 v20) 21 v21) 22 v22) 23 v23) (e 0) h)
 (Qff L K (e 0) h)))))))))))
theorem QJL {L : QL} {K : QK} (I : Nat → Env → Heap → Prop) (hr : ∀ n e h, I n e h → Qmb L K (fun e' h' => ∃ m, m < n ∧ I m e' h') e h) {n : Nat} {e : Env} {h : Heap} (hi : I n e h) : Wl F L Qo2 (Qpc L K) e h :=
  wloopp (b := Qmb L K) I (fun _ _ _ => by kernel_rfl) hr hi
def Qex (L : QL) (K : QK) (e : Env) (h : Heap) : Prop :=
 (Wl F L Qo2 (Qpc L K) e h)
def Qgt (L : QL) (K : QK) (N0 : QN) (e : Env) (v0 : V) (h : Heap) : Prop :=
 (wi F L (.slstr (.c v0) (some (.c (.int .i64 1))) none) E0 h fun v12 h =>
 (N0 (upd (upd (upd e 11 v0) 12 v12) 0 v12) h))
def QuU (L : QL) (K : QK) : X → Env → Heap → Prop := (fun x => (seqX (fun e h => Qex L K e  h) (Qy QhK.results K)) (X.out 0 x))
def QuA : C :=
 (.seq (.seq (.region [⟨(some 3), none, .mv (.t 0)⟩, ⟨(some 4), none, .len 0 (.t 3)⟩, ⟨(some 5), none, .bin .gtr (.t 4) (.c (.int .i64 0))⟩, ⟨(some 6), none, .mv (.t 5)⟩, ⟨(some 7), (some (6, true)), .mv (.t 0)⟩, ⟨(some 8), (some (6, true)), .ixStr (.t 7) (.c (.int .i64 0))⟩, ⟨(some 9), (some (6, true)), .call Qdw [(.t 8)]⟩, ⟨(some 10), none, .pick (.t 6) (.t 9) (.c (.bool false))⟩])
 (.cond (.t 10)
 .skip
 (.exit 0)))
 (.block 1 (.region [⟨(some 11), none, .mv (.t 0)⟩, ⟨(some 12), none, .slstr (.t 11) (some (.c (.int .i64 1))) none⟩, ⟨(some 0), none, .mv (.t 12)⟩])))
def QnW (L : QL) (K : QK) (N0 : QN) (e : Env) (h : Heap) : Prop :=
 (wi F L (.len 0 (.c (e 0))) E0 h fun v4 h =>
 (wi F L (.bin .gtr (.c v4) (.c (.int .i64 0))) E0 h fun v5 h =>
 (wg v5 true (wi F L (.mv (.c (e 0))) E0 h) h fun v7 h =>
 (wg v5 true (wi F L (.ixStr (.c v7) (.c (.int .i64 0))) E0 h) h fun v8 h =>
 (wg v5 true (wi F L (.call Qdw [(.c v8)]) E0 h) h fun v9 h =>
 (wi F L (.pick (.c v5) (.c v9) (.c (.bool false))) E0 h fun v10 h =>
 (wb v10
 (Qgt L K N0 (upd (upd (upd (upd (upd (upd (upd (upd e 3 (e 0)) 4 v4) 5 v5) 6 v5) 7 v7) 8 v8) 9 v9) 10 v10) (e 0) h)
 (Qex L K (upd (upd (upd (upd (upd (upd (upd (upd e 3 (e 0)) 4 v4) 5 v5) 6 v5) 7 v7) 8 v8) 9 v9) 10 v10)  h))))))))
theorem QHF {L : QL} {K : QK} (I : Nat → Env → Heap → Prop) (hr : ∀ n e h, I n e h → QnW L K (fun e' h' => ∃ m, m < n ∧ I m e' h') e h) {n : Nat} {e : Env} {h : Heap} (hi : I n e h) : Wl F L QuA (QuU L K) e h :=
  wloopp (b := QnW L K) I (fun _ _ _ => by kernel_rfl) hr hi
def QpI (L : QL) (K : QK) (a0 : V) (h : Heap) : Prop :=
 (Wl F L QuA (QuU L K) (upd (Qd [a0]) 2 (.str [])) h)
theorem QBI {L : QL} {K : QK} {a0 : V} {h : Heap} (hp : QpI L K a0 h) : Cf F L Qd2 [a0] h K :=
  wcallp QCJ (of_decide_eq_true (by kernel_rfl)) (p := QpI L K a0 h) (by kernel_rfl) hp
def QoI (L : QL) (K : QK) (h : Heap) : Prop :=
 (wi F L (.boxz [(.int .i64 0), (.int .i64 0), (.int .i64 0), (.int .i64 0), (.int .i64 0), (.int .i64 0), (.int .i64 0), (.int .i64 0), (.int .i64 0), (.int .i64 0), (.int .i64 0), (.int .i64 0)]) E0 h fun v0 h =>
 (wi F L (.build [(.int .i64 0), (.int .i64 0), (.int .i64 0), (.int .i64 0), (.int .i64 0), (.int .i64 0), (.int .i64 0), (.int .i64 0), (.int .i64 0), (.int .i64 0), (.int .i64 0), (.int .i64 0)] [(0, 1, (.c (.int .i64 200))), (1, 1, (.c (.int .i64 203))), (2, 1, (.c (.int .i64 204))), (3, 1, (.c (.int .i64 206))), (4, 1, (.c (.int .i64 300))), (5, 1, (.c (.int .i64 301))), (6, 1, (.c (.int .i64 308))), (7, 1, (.c (.int .i64 404))), (8, 1, (.c (.int .i64 405))), (9, 1, (.c (.int .i64 410))), (10, 1, (.c (.int .i64 414))), (11, 1, (.c (.int .i64 501)))]) E0 h fun v1 h =>
 (wi F L (.store 12 (.c v0) (.c v1)) E0 h fun _ h =>
 (∃ v, Qa h (Qd [v0]) [.cell 0 true 12] = some v ∧ K v h))))
theorem QDY {L : QL} {K : QK} {h : Heap} (hp : QoI L K  h) : Cf F L QfH [] h K :=
  wcallp Qwl (of_decide_eq_true (by kernel_rfl)) (p := QoI L K  h) (by kernel_rfl) hp
def Qc1 (L : QL) (K : QK) (v10 : V) (h : Heap) : Prop :=
 (∃ v, Qa h (Qd [v10, (.bool true)]) [.tmp 0, .tmp 1] = some v ∧ K v h)
def Qdd (L : QL) (K : QK) (N0 : QN) (e : Env) (v11 : V) (h : Heap) : Prop :=
 (wi F L (.bin .add (.c v11) (.c (.int .i64 1))) E0 h fun v30 h =>
 (N0 (upd (upd (upd e 29 v11) 30 v30) 11 v30) h))
def Qdu (L : QL) (K : QK) (N0 : QN) (e : Env) (v8 v10 v11 : V) (h : Heap) : Prop :=
 (wi F L (.ixaSl 1 (.c v8) (.c v11)) E0 h fun v40 h =>
 (wi F L (.load false 1 (.c v40)) E0 h fun v41 h =>
 (wi F L (.call Qb4 [(.c v41)]) E0 h fun v42 h =>
 (wi F L (.bsl 1 [(.c v42)]) E0 h fun v43 h =>
 (wi F L (.app 1 16 false (.c v10) (.c v43)) E0 h fun v44 h =>
 (Qdd L K N0 (upd (upd (upd (upd (upd (upd (upd (upd (upd e 37 v10) 38 v8) 39 v11) 40 v40) 41 v41) 42 v42) 43 v43) 44 v44) 10 v44) v11 h))))))
def Qdl (L : QL) (K : QK) (N0 : QN) (e : Env) (v8 v10 v11 : V) (h : Heap) : Prop :=
 (wi F L (.ixaSl 1 (.c v8) (.c v11)) E0 h fun v33 h =>
 (wi F L (.load false 1 (.c v33)) E0 h fun v34 h =>
 (wi F L (.call Qdx [(.c v34)]) E0 h fun v35 h =>
 (wi F L (.un .not (.c v35)) E0 h fun v36 h =>
 (wb v36
 (∃ v, Qa h (Qd [.nsl, (.bool false)]) [.tmp 0, .tmp 1] = some v ∧ K v h)
 (Qdu L K N0 (upd (upd (upd (upd (upd (upd e 31 v8) 32 v11) 33 v33) 34 v34) 35 v35) 36 v36) v8 v10 v11 h))))))
def QrL (L : QL) (K : QK) : X → Env → Heap → Prop := (fun x => (seqX (fun e h => Qc1 L K (e 10) h) (Qy QkF.results K)) (X.out 0 x))
def Qul : C :=
 (.seq (.seq (.region [⟨(some 25), none, .mv (.t 11)⟩, ⟨(some 26), none, .mv (.t 8)⟩, ⟨(some 27), none, .len 1 (.t 26)⟩, ⟨(some 28), none, .bin .lss (.t 25) (.t 27)⟩])
 (.cond (.t 28)
 .skip
 (.exit 0)))
 (.seq (.block 1 (.seq (.seq (.region [⟨(some 31), none, .mv (.t 8)⟩, ⟨(some 32), none, .mv (.t 11)⟩, ⟨(some 33), none, .ixaSl 1 (.t 31) (.t 32)⟩, ⟨(some 34), none, .load false 1 (.t 33)⟩, ⟨(some 35), none, .call Qdx [(.t 34)]⟩, ⟨(some 36), none, .un .not (.t 35)⟩])
 (.cond (.t 36)
 (.seq (.region [⟨(some 4), none, .mv (.c .nsl)⟩, ⟨(some 5), none, .mv (.c (.bool false))⟩])
 .ret)
 .skip))
 (.region [⟨(some 37), none, .mv (.t 10)⟩, ⟨(some 38), none, .mv (.t 8)⟩, ⟨(some 39), none, .mv (.t 11)⟩, ⟨(some 40), none, .ixaSl 1 (.t 38) (.t 39)⟩, ⟨(some 41), none, .load false 1 (.t 40)⟩, ⟨(some 42), none, .call Qb4 [(.t 41)]⟩, ⟨(some 43), none, .bsl 1 [(.t 42)]⟩, ⟨(some 44), none, .app 1 16 false (.t 37) (.t 43)⟩, ⟨(some 10), none, .mv (.t 44)⟩])))
 (.region [⟨(some 29), none, .mv (.t 11)⟩, ⟨(some 30), none, .bin .add (.t 29) (.c (.int .i64 1))⟩, ⟨(some 11), none, .mv (.t 30)⟩])))
def QkX (L : QL) (K : QK) (N0 : QN) (e : Env) (h : Heap) : Prop :=
 (wi F L (.len 1 (.c (e 8))) E0 h fun v27 h =>
 (wi F L (.bin .lss (.c (e 11)) (.c v27)) E0 h fun v28 h =>
 (wb v28
 (Qdl L K N0 (upd (upd (upd (upd e 25 (e 11)) 26 (e 8)) 27 v27) 28 v28) (e 8) (e 10) (e 11) h)
 (Qc1 L K (e 10) h))))
theorem QFM {L : QL} {K : QK} (I : Nat → Env → Heap → Prop) (hr : ∀ n e h, I n e h → QkX L K (fun e' h' => ∃ m, m < n ∧ I m e' h') e h) {n : Nat} {e : Env} {h : Heap} (hi : I n e h) : Wl F L Qul (QrL L K) e h :=
  wloopp (b := QkX L K) I (fun _ _ _ => by kernel_rfl) hr hi
def Qdt (L : QL) (K : QK) (e : Env) (h : Heap) : Prop :=
 (Wl F L Qul (QrL L K) (upd (upd e 10 .nsl) 11 (.int .i64 0)) h)
def Qrd (L : QL) (K : QK) (a0 a1 : V) (h : Heap) : Prop :=
 (wi F L (.call QbU [(.c a0), (.c a1)]) E0 h fun v15 h =>
 (wi F L (.ext 0 (.c v15)) E0 h fun v16 h =>
 (wi F L (.ext 1 (.c v15)) E0 h fun v17 h =>
 (wi F L (.call Qc4 [(.c v16)]) E0 h fun v20 h =>
 (wi F L (.ext 0 (.c v20)) E0 h fun v21 h =>
 (wi F L (.ext 1 (.c v20)) E0 h fun v22 h =>
 (wi F L (.un .not (.c v22)) E0 h fun v24 h =>
 (wb v24
 (∃ v, Qa h (Qd [.nsl, (.bool false)]) [.tmp 0, .tmp 1] = some v ∧ K v h)
 (Qdt L K (upd (upd (upd (upd (upd (upd (upd (upd (upd (upd (upd (upd (upd (upd (upd (upd (upd (upd (upd (Qd [a0, a1]) 4 .nsl) 5 (.bool false)) 13 a0) 14 a1) 15 v15) 12 v15) 16 v16) 17 v17) 6 v16) 7 v17) 19 v16) 20 v20) 18 v20) 21 v21) 22 v22) 8 v21) 9 v22) 23 v22) 24 v24)  h)))))))))
theorem Qwc {L : QL} {K : QK} {a0 a1 : V} {h : Heap} (hp : Qrd L K a0 a1 h) : Cf F L Qgo [a0, a1] h K :=
  wcallp Qza (of_decide_eq_true (by kernel_rfl)) (p := Qrd L K a0 a1 h) (by kernel_rfl) hp
def Qoe (L : QL) (K : QK) (a0 : V) (h : Heap) : Prop :=
 (wi F L (.bin .neq (.c a0) (.c (.str []))) E0 h fun v4 h =>
 (wg v4 true (wi F L (.mv (.c a0)) E0 h) h fun v6 h =>
 (wg v4 true (wi F L (.call Qem [(.c v6), (.c (.fn Qgb []))]) E0 h) h fun v7 h =>
 (wi F L (.pick (.c v4) (.c v7) (.c (.bool false))) E0 h fun v8 h =>
 (∃ v, some v8 = some v ∧ K v h)))))
theorem QHz {L : QL} {K : QK} {a0 : V} {h : Heap} (hp : Qoe L K a0 h) : Cf F L Qdp [a0] h K :=
  wcallp QA5 (of_decide_eq_true (by kernel_rfl)) (p := Qoe L K a0 h) (by kernel_rfl) hp
def Qfv (L : QL) (K : QK) (v5 : V) (h : Heap) : Prop :=
 (∃ v, some v5 = some v ∧ K v h)
def Qf8 (L : QL) (K : QK) (N0 : QN) (e : Env) (v10 : V) (h : Heap) : Prop :=
 (wi F L (.bin .add (.c v10) (.c (.int .i64 1))) E0 h fun v21 h =>
 (N0 (upd (upd e 21 v21) 10 v21) h))
def QgG (L : QL) (K : QK) (N0 : QN) (e : Env) (v1 v5 v8 v10 : V) (h : Heap) : Prop :=
 (wi F L (.ixaSl 2 (.c v8) (.c v10)) E0 h fun v12 h =>
 (wi F L (.load true 2 (.c v12)) E0 h fun v13 h =>
 (wi F L (.boxz [(.str []), (.str [])]) E0 h fun v7 h =>
 (wi F L (.store 2 (.c v7) (.c v13)) E0 h fun _ h =>
 (wi F L (.load true 2 (.c v7)) E0 h fun v15 h =>
 (wi F L (.callv (.c v1) [(.c v15)]) E0 h fun v16 h =>
 (wb v16
 (wi F L (.load true 2 (.c v7)) E0 h fun v18 h =>
 (wi F L (.bsl 2 [(.c v18)]) E0 h fun v19 h =>
 (wi F L (.app 2 32 false (.c v5) (.c v19)) E0 h fun v20 h =>
 (Qf8 L K N0 (upd (upd (upd (upd (upd (upd (upd (upd (upd (upd (upd e 12 v12) 13 v13) 7 v7) 14 v1) 15 v15) 16 v16) 17 v5) 18 v18) 19 v19) 20 v20) 5 v20) v10 h))))
 (Qf8 L K N0 (upd (upd (upd (upd (upd (upd e 12 v12) 13 v13) 7 v7) 14 v1) 15 v15) 16 v16) v10 h))))))))
def Qsk (L : QL) (K : QK) : X → Env → Heap → Prop := (fun x => (seqX (fun e h => Qfv L K (e 5) h) (Qy Qj2.results K)) (X.out 0 x))
def QuT : C :=
 (.seq (.region [⟨(some 11), none, .bin .lss (.t 10) (.t 9)⟩])
 (.seq (.cond (.t 11)
 .skip
 (.exit 0))
 (.seq (.block 1 (.seq (.region [⟨(some 12), none, .ixaSl 2 (.t 8) (.t 10)⟩, ⟨(some 13), none, .load true 2 (.t 12)⟩, ⟨(some 7), none, .boxz [(.str []), (.str [])]⟩, ⟨none, none, .store 2 (.t 7) (.t 13)⟩])
 (.seq (.region [⟨(some 14), none, .mv (.t 1)⟩, ⟨(some 15), none, .load true 2 (.t 7)⟩, ⟨(some 16), none, .callv (.t 14) [(.t 15)]⟩])
 (.cond (.t 16)
 (.region [⟨(some 17), none, .mv (.t 5)⟩, ⟨(some 18), none, .load true 2 (.t 7)⟩, ⟨(some 19), none, .bsl 2 [(.t 18)]⟩, ⟨(some 20), none, .app 2 32 false (.t 17) (.t 19)⟩, ⟨(some 5), none, .mv (.t 20)⟩])
 .skip))))
 (.region [⟨(some 21), none, .bin .add (.t 10) (.c (.int .i64 1))⟩, ⟨(some 10), none, .mv (.t 21)⟩]))))
def Qmg (L : QL) (K : QK) (N0 : QN) (e : Env) (h : Heap) : Prop :=
 (wi F L (.bin .lss (.c (e 10)) (.c (e 9))) E0 h fun v11 h =>
 (wb v11
 (QgG L K N0 (upd e 11 v11) (e 1) (e 5) (e 8) (e 10) h)
 (Qfv L K (e 5) h)))
theorem QGD {L : QL} {K : QK} (I : Nat → Env → Heap → Prop) (hr : ∀ n e h, I n e h → Qmg L K (fun e' h' => ∃ m, m < n ∧ I m e' h') e h) {n : Nat} {e : Env} {h : Heap} (hi : I n e h) : Wl F L QuT (Qsk L K) e h :=
  wloopp (b := Qmg L K) I (fun _ _ _ => by kernel_rfl) hr hi
def Qo1 (L : QL) (K : QK) (a0 a1 : V) (h : Heap) : Prop :=
 (wi F L (.len 1 (.c a0)) E0 h fun v9 h =>
 (Wl F L QuT (Qsk L K) (upd (upd (upd (upd (upd (Qd [a0, a1]) 4 .nsl) 5 .nsl) 8 a0) 9 v9) 10 (.int .i64 0)) h))
theorem Qxv {L : QL} {K : QK} {a0 a1 : V} {h : Heap} (hp : Qo1 L K a0 a1 h) : Cf F L Qf6 [a0, a1] h K :=
  wcallp QED (of_decide_eq_true (by kernel_rfl)) (p := Qo1 L K a0 a1 h) (by kernel_rfl) hp
def Qre (L : QL) (K : QK) (a0 a1 : V) (h : Heap) : Prop :=
 (wi F L (.box (.c a0)) E0 h fun v2 h =>
 (wi F L (.load false 1 (.c a1)) E0 h fun v4 h' => Ext h h' ∧
 (wi F L (.faddr 0 (.c v2)) E0 h' fun v5 h => Ext h' h ∧
 (wi F L (.load false 1 (.c v5)) E0 h fun v6 h' => Ext h h' ∧
 (wi F L (.call Qbn [(.c v6)]) E0 h' fun v7 h => Ext h' h ∧
 (wi F L (.lookup .s (.bool false) false (.c v4) (.c v7)) E0 h fun v8 h =>
 (wi F L (.un .not (.c v8)) E0 h fun v9 h =>
 (∃ v, some v9 = some v ∧ K v h))))))))
theorem QID {L : QL} {K : QK} {a0 a1 : V} {h : Heap} (hp : Qre L K a0 a1 h) : Cf F L QfQ [a0, a1] h K :=
  wcallp QJf (of_decide_eq_true (by kernel_rfl)) (p := Qre L K a0 a1 h) (by kernel_rfl) hp
def QqL (L : QL) (K : QK) (h : Heap) : Prop :=
 (∃ v, some (.int .i64 (-1)) = some v ∧ K v h)
def QtJ (L : QL) (K : QK) (N0 : QN) (e : Env) (v8 : V) (h : Heap) : Prop :=
 (wi F L (.bin .add (.c v8) (.c (.int .i64 1))) E0 h fun v18 h =>
 (N0 (upd (upd e 18 v18) 8 v18) h))
def QvL (L : QL) (K : QK) (N0 : QN) (e : Env) (v0 v1 v8 : V) (h : Heap) : Prop :=
 (wi F L (.ixaSl 2 (.c v0) (.c v8)) E0 h fun v14 h =>
 (wi F L (.load true 2 (.c v14)) E0 h fun v15 h =>
 (wi F L (.callv (.c v1) [(.c v15)]) E0 h fun v16 h =>
 (wb v16
 (∃ v, some v8 = some v ∧ K v h)
 (QtJ L K N0 (upd (upd (upd (upd (upd (upd (upd (upd e 10 v8) 5 v8) 11 v1) 12 v0) 13 v8) 14 v14) 15 v15) 16 v16) v8 h)))))
def QtE (L : QL) (K : QK) : X → Env → Heap → Prop := (fun x => (seqX (fun e h => QqL L K  h) (Qy Qjk.results K)) (X.out 0 x))
def QuO : C :=
 (.seq (.region [⟨(some 9), none, .bin .lss (.t 8) (.t 7)⟩])
 (.seq (.cond (.t 9)
 .skip
 (.exit 0))
 (.seq (.block 1 (.seq (.region [⟨(some 10), none, .mv (.t 8)⟩, ⟨(some 5), none, .mv (.t 10)⟩])
 (.seq (.region [⟨(some 11), none, .mv (.t 1)⟩, ⟨(some 12), none, .mv (.t 0)⟩, ⟨(some 13), none, .mv (.t 5)⟩, ⟨(some 14), none, .ixaSl 2 (.t 12) (.t 13)⟩, ⟨(some 15), none, .load true 2 (.t 14)⟩, ⟨(some 16), none, .callv (.t 11) [(.t 15)]⟩])
 (.cond (.t 16)
 (.seq (.region [⟨(some 17), none, .mv (.t 5)⟩, ⟨(some 4), none, .mv (.t 17)⟩])
 .ret)
 .skip))))
 (.region [⟨(some 18), none, .bin .add (.t 8) (.c (.int .i64 1))⟩, ⟨(some 8), none, .mv (.t 18)⟩]))))
def Qqc (L : QL) (K : QK) (N0 : QN) (e : Env) (h : Heap) : Prop :=
 (wi F L (.bin .lss (.c (e 8)) (.c (e 7))) E0 h fun v9 h =>
 (wb v9
 (QvL L K N0 (upd e 9 v9) (e 0) (e 1) (e 8) h)
 (QqL L K  h)))
theorem Qxj {L : QL} {K : QK} (I : Nat → Env → Heap → Prop) (hr : ∀ n e h, I n e h → Qqc L K (fun e' h' => ∃ m, m < n ∧ I m e' h') e h) {n : Nat} {e : Env} {h : Heap} (hi : I n e h) : Wl F L QuO (QtE L K) e h :=
  wloopp (b := Qqc L K) I (fun _ _ _ => by kernel_rfl) hr hi
def QoQ (L : QL) (K : QK) (a0 a1 : V) (h : Heap) : Prop :=
 (wi F L (.len 1 (.c a0)) E0 h fun v7 h =>
 (Wl F L QuO (QtE L K) (upd (upd (upd (upd (Qd [a0, a1]) 4 (.int .i64 0)) 6 a0) 7 v7) 8 (.int .i64 0)) h))
theorem QAL {L : QL} {K : QK} {a0 a1 : V} {h : Heap} (hp : QoQ L K a0 a1 h) : Cf F L Qgy [a0, a1] h K :=
  wcallp QF7 (of_decide_eq_true (by kernel_rfl)) (p := QoQ L K a0 a1 h) (by kernel_rfl) hp
def Qo5 (L : QL) (K : QK) (h : Heap) : Prop :=
 (wi F L (.mkmap) E0 h fun v4 h =>
 (wi F L (.boxz [.nmap]) E0 h fun v1 h =>
 (wi F L (.store 1 (.c v1) (.c v4)) E0 h fun _ h =>
 (wi F L (.mkfn Qf1 [(.c v1)]) E0 h fun v5 h =>
 (wi F L (.mkfn Qgu [(.c v1)]) E0 h fun v6 h =>
 (wi F L (.callv (.c v5) [(.c (.str [110, 111, 45, 115, 116, 111, 114, 101])), (.c (.fn QeZ []))]) E0 h fun v8 h =>
 (wi F L (.callv (.c v5) [(.c (.str [110, 111, 45, 99, 97, 99, 104, 101])), (.c (.fn Qfg []))]) E0 h fun v10 h =>
 (wi F L (.callv (.c v5) [(.c (.str [112, 114, 105, 118, 97, 116, 101])), (.c (.fn QeD []))]) E0 h fun v12 h =>
 (wi F L (.callv (.c v5) [(.c (.str [112, 117, 98, 108, 105, 99])), (.c (.fn QeJ []))]) E0 h fun v14 h =>
 (wi F L (.callv (.c v5) [(.c (.str [109, 117, 115, 116, 45, 114, 101, 118, 97, 108, 105, 100, 97, 116, 101])), (.c (.fn Qev []))]) E0 h fun v16 h =>
 (wi F L (.callv (.c v5) [(.c (.str [112, 114, 111, 120, 121, 45, 114, 101, 118, 97, 108, 105, 100, 97, 116, 101])), (.c (.fn QeH []))]) E0 h fun v18 h =>
 (wi F L (.callv (.c v5) [(.c (.str [111, 110, 108, 121, 45, 105, 102, 45, 99, 97, 99, 104, 101, 100])), (.c (.fn QeU []))]) E0 h fun v20 h =>
 (wi F L (.callv (.c v6) [(.c (.str [109, 97, 120, 45, 97, 103, 101])), (.c (.int .i64 0)), (.c (.int .i64 0)), (.c (.fn QeQ []))]) E0 h fun v22 h =>
 (wi F L (.callv (.c v6) [(.c (.str [115, 45, 109, 97, 120, 97, 103, 101])), (.c (.int .i64 0)), (.c (.int .i64 0)), (.c (.fn QeV []))]) E0 h fun v24 h =>
 (wi F L (.callv (.c v6) [(.c (.str [115, 116, 97, 108, 101, 45, 119, 104, 105, 108, 101, 45, 114, 101, 118, 97, 108, 105, 100, 97, 116, 101])), (.c (.int .i64 (-1))), (.c (.int .i64 (-1))), (.c (.fn QeX []))]) E0 h fun v26 h =>
 (wi F L (.callv (.c v6) [(.c (.str [115, 116, 97, 108, 101, 45, 105, 102, 45, 101, 114, 114, 111, 114])), (.c (.int .i64 (-1))), (.c (.int .i64 (-1))), (.c (.fn QeK []))]) E0 h fun v28 h =>
 (wi F L (.callv (.c v6) [(.c (.str [109, 105, 110, 45, 102, 114, 101, 115, 104])), (.c (.int .i64 (-1))), (.c (.int .i64 (-1))), (.c (.fn Qe4 []))]) E0 h fun v30 h =>
 (wi F L (.callv (.c v6) [(.c (.str [109, 97, 120, 45, 115, 116, 97, 108, 101])), (.c (.int .i64 2147483648)), (.c (.int .i64 (-1))), (.c (.fn Qfc []))]) E0 h fun v32 h =>
 (wi F L (.load false 1 (.c v1)) E0 h fun v33 h =>
 (∃ v, some v33 = some v ∧ K v h))))))))))))))))))))
theorem QyH {L : QL} {K : QK} {h : Heap} (hp : Qo5 L K  h) : Cf F L QfO [] h K :=
  wcallp QIq (of_decide_eq_true (by kernel_rfl)) (p := Qo5 L K  h) (by kernel_rfl) hp
def Qc5 (L : QL) (K : QK) (v2 v3 : V) (h : Heap) : Prop :=
 (∃ v, Qa h (Qd [v2, v3, (.bool true), (.bool true)]) [.tmp 0, .tmp 1, .tmp 2, .tmp 3] = some v ∧ K v h)
def QcW (L : QL) (K : QK) (v2 v3 : V) (h : Heap) : Prop :=
 (wi F L (.call QkG [(.c v3)]) E0 h fun v26 h =>
 (wi F L (.ext 0 (.c v26)) E0 h fun v27 h =>
 (wi F L (.ext 1 (.c v26)) E0 h fun v28 h =>
 (wi F L (.un .not (.c v28)) E0 h fun v30 h =>
 (wb v30
 (∃ v, Qa h (Qd [(.str []), (.str []), (.bool false), (.bool false)]) [.tmp 0, .tmp 1, .tmp 2, .tmp 3] = some v ∧ K v h)
 (Qc5 L K v2 v27 h))))))
def Qdy (L : QL) (K : QK) (v2 v3 v4 : V) (h : Heap) : Prop :=
 (wi F L (.un .not (.c v4)) E0 h fun v16 h =>
 (wg v16 false (wi F L (.mv (.c v3)) E0 h) h fun v18 h =>
 (wg v16 false (wi F L (.call Qdp [(.c v18)]) E0 h) h fun v19 h =>
 (wi F L (.pick (.c v16) (.c (.bool true)) (.c v19)) E0 h fun v20 h =>
 (wb v20
 (∃ v, Qa h (Qd [v2, v3, v4, (.bool true)]) [.tmp 0, .tmp 1, .tmp 2, .tmp 3] = some v ∧ K v h)
 (QcW L K v2 v3 h))))))
def Qqn (L : QL) (K : QK) (a0 : V) (h : Heap) : Prop :=
 (wi F L (.call Qf2 [(.c a0), (.c (.str [61]))]) E0 h fun v8 h =>
 (wi F L (.ext 0 (.c v8)) E0 h fun v9 h =>
 (wi F L (.ext 1 (.c v8)) E0 h fun v10 h =>
 (wi F L (.ext 2 (.c v8)) E0 h fun v11 h =>
 (wi F L (.call Qdp [(.c v9)]) E0 h fun v13 h =>
 (wi F L (.un .not (.c v13)) E0 h fun v14 h =>
 (wb v14
 (∃ v, Qa h (Qd [(.str []), (.str []), (.bool false), (.bool false)]) [.tmp 0, .tmp 1, .tmp 2, .tmp 3] = some v ∧ K v h)
 (Qdy L K v9 v10 v11 h))))))))
theorem QwD {L : QL} {K : QK} {a0 : V} {h : Heap} (hp : Qqn L K a0 h) : Cf F L QeE [a0] h K :=
  wcallp QGu (of_decide_eq_true (by kernel_rfl)) (p := Qqn L K a0 h) (by kernel_rfl) hp
def Qh9 (L : QL) (K : QK) (v3 : V) (h : Heap) : Prop :=
 (wi F L (.faddr 3 (.c v3)) E0 h fun v20 h =>
 (wi F L (.load false 1 (.c v20)) E0 h fun v21 h =>
 (∃ v, some v21 = some v ∧ K v h)))
def QhA (L : QL) (K : QK) (v1 v3 : V) (h : Heap) : Prop :=
 (wi F L (.call Qeu [(.c v1), (.c (.int .i64 2147483648))]) E0 h fun v15 h =>
 (wi F L (.ext 0 (.c v15)) E0 h fun v16 h =>
 (wi F L (.ext 1 (.c v15)) E0 h fun v17 h =>
 (wb v17
 (∃ v, some v16 = some v ∧ K v h)
 (Qh9 L K v3 h)))))
def Qoh (L : QL) (K : QK) (a0 a1 a2 : V) (h : Heap) : Prop :=
 (wi F L (.box (.c a0)) E0 h fun v3 h =>
 (wi F L (.un .not (.c a2)) E0 h fun v10 h =>
 (wb v10
 (wi F L (.faddr 2 (.c v3)) E0 h fun v11 h =>
 (wi F L (.load false 1 (.c v11)) E0 h fun v12 h =>
 (∃ v, some v12 = some v ∧ K v h)))
 (QhA L K a1 v3 h))))
theorem QzH {L : QL} {K : QK} {a0 a1 a2 : V} {h : Heap} (hp : Qoh L K a0 a1 a2 h) : Cf F L QeR [a0, a1, a2] h K :=
  wcallp QHG (of_decide_eq_true (by kernel_rfl)) (p := Qoh L K a0 a1 a2 h) (by kernel_rfl) hp
def Qhy (L : QL) (K : QK) (h : Heap) : Prop :=
 (∃ v, some (.int .i64 (-1)) = some v ∧ K v h)
def Qiy (L : QL) (K : QK) (N0 : QN) (e : Env) (v8 : V) (h : Heap) : Prop :=
 (wi F L (.bin .add (.c v8) (.c (.int .i64 1))) E0 h fun v18 h =>
 (N0 (upd (upd e 18 v18) 8 v18) h))
def QhX (L : QL) (K : QK) (N0 : QN) (e : Env) (v0 v1 v8 : V) (h : Heap) : Prop :=
 (wi F L (.ixaSl 1 (.c v0) (.c v8)) E0 h fun v14 h =>
 (wi F L (.load false 1 (.c v14)) E0 h fun v15 h =>
 (wi F L (.bin .eql (.c v1) (.c v15)) E0 h fun v16 h =>
 (wb v16
 (∃ v, some v8 = some v ∧ K v h)
 (Qiy L K N0 (upd (upd (upd (upd (upd (upd (upd (upd e 10 v8) 5 v8) 11 v1) 12 v0) 13 v8) 14 v14) 15 v15) 16 v16) v8 h)))))
def Qu4 (L : QL) (K : QK) : X → Env → Heap → Prop := (fun x => (seqX (fun e h => Qhy L K  h) (Qy QkE.results K)) (X.out 0 x))
def Quw : C :=
 (.seq (.region [⟨(some 9), none, .bin .lss (.t 8) (.t 7)⟩])
 (.seq (.cond (.t 9)
 .skip
 (.exit 0))
 (.seq (.block 1 (.seq (.region [⟨(some 10), none, .mv (.t 8)⟩, ⟨(some 5), none, .mv (.t 10)⟩])
 (.seq (.region [⟨(some 11), none, .mv (.t 1)⟩, ⟨(some 12), none, .mv (.t 0)⟩, ⟨(some 13), none, .mv (.t 5)⟩, ⟨(some 14), none, .ixaSl 1 (.t 12) (.t 13)⟩, ⟨(some 15), none, .load false 1 (.t 14)⟩, ⟨(some 16), none, .bin .eql (.t 11) (.t 15)⟩])
 (.cond (.t 16)
 (.seq (.region [⟨(some 17), none, .mv (.t 5)⟩, ⟨(some 4), none, .mv (.t 17)⟩])
 .ret)
 .skip))))
 (.region [⟨(some 18), none, .bin .add (.t 8) (.c (.int .i64 1))⟩, ⟨(some 8), none, .mv (.t 18)⟩]))))
def Qny (L : QL) (K : QK) (N0 : QN) (e : Env) (h : Heap) : Prop :=
 (wi F L (.bin .lss (.c (e 8)) (.c (e 7))) E0 h fun v9 h =>
 (wb v9
 (QhX L K N0 (upd e 9 v9) (e 0) (e 1) (e 8) h)
 (Qhy L K  h)))
theorem QxA {L : QL} {K : QK} (I : Nat → Env → Heap → Prop) (hr : ∀ n e h, I n e h → Qny L K (fun e' h' => ∃ m, m < n ∧ I m e' h') e h) {n : Nat} {e : Env} {h : Heap} (hi : I n e h) : Wl F L Quw (Qu4 L K) e h :=
  wloopp (b := Qny L K) I (fun _ _ _ => by kernel_rfl) hr hi
def Qlz (L : QL) (K : QK) (a0 a1 : V) (h : Heap) : Prop :=
 (wi F L (.len 1 (.c a0)) E0 h fun v7 h =>
 (Wl F L Quw (Qu4 L K) (upd (upd (upd (upd (Qd [a0, a1]) 4 (.int .i64 0)) 6 a0) 7 v7) 8 (.int .i64 0)) h))
theorem QDs {L : QL} {K : QK} {a0 a1 : V} {h : Heap} (hp : Qlz L K a0 a1 h) : Cf F L Qgq [a0, a1] h K :=
  wcallp QJi (of_decide_eq_true (by kernel_rfl)) (p := Qlz L K a0 a1 h) (by kernel_rfl) hp
def Qoi (L : QL) (K : QK) (a0 : V) (h : Heap) : Prop :=
 (wi F L (.call QdD [(.c a0), (.c (.bool false))]) E0 h fun v10 h =>
 (wi F L (.call QaA [(.c a0), (.c (.str [44, 32]))]) E0 h fun v12 h =>
 (wi F L (.call QbJ [(.c a0), (.c (.int .i64 2))]) E0 h fun v14 h =>
 (wi F L (.call QaA [(.c a0), (.c (.str [32]))]) E0 h fun v16 h =>
 (wi F L (.call QdE [(.c a0)]) E0 h fun v18 h =>
 (wi F L (.call QaA [(.c a0), (.c (.str [32]))]) E0 h fun v20 h =>
 (wi F L (.call QbJ [(.c a0), (.c (.int .i64 4))]) E0 h fun v22 h =>
 (wi F L (.call QaA [(.c a0), (.c (.str [32]))]) E0 h fun v24 h =>
 (wi F L (.call QdI [(.c a0)]) E0 h fun v26 h =>
 (wi F L (.call QaA [(.c a0), (.c (.str [32, 71, 77, 84]))]) E0 h fun v28 h =>
 (wi F L (.call Qeb [(.c a0), (.c v10), (.c v22), (.c v18), (.c v14), (.c v26)]) E0 h fun v35 h =>
 (wi F L (.ext 0 (.c v35)) E0 h fun v36 h =>
 (wi F L (.ext 1 (.c v35)) E0 h fun v37 h =>
 (∃ v, Qa h (Qd [v36, v37]) [.tmp 0, .tmp 1] = some v ∧ K v h))))))))))))))
theorem QAQ {L : QL} {K : QK} {a0 : V} {h : Heap} (hp : Qoi L K a0 h) : Cf F L Qef [a0] h K :=
  wcallp QIw (of_decide_eq_true (by kernel_rfl)) (p := Qoi L K a0 h) (by kernel_rfl) hp
def Qg1 (L : QL) (K : QK) (v0 v4 v5 v6 v7 v8 : V) (h : Heap) : Prop :=
 (wi F L (.call Qeb [(.c v0), (.c v4), (.c v7), (.c v6), (.c v5), (.c v8)]) E0 h fun v41 h =>
 (wi F L (.ext 0 (.c v41)) E0 h fun v42 h =>
 (wi F L (.ext 1 (.c v41)) E0 h fun v43 h =>
 (∃ v, Qa h (Qd [v42, v43]) [.tmp 0, .tmp 1] = some v ∧ K v h))))
def Qmp (L : QL) (K : QK) (a0 : V) (h : Heap) : Prop :=
 (wi F L (.call QdD [(.c a0), (.c (.bool true))]) E0 h fun v10 h =>
 (wi F L (.call QaA [(.c a0), (.c (.str [44, 32]))]) E0 h fun v12 h =>
 (wi F L (.call QbJ [(.c a0), (.c (.int .i64 2))]) E0 h fun v14 h =>
 (wi F L (.call QaA [(.c a0), (.c (.str [45]))]) E0 h fun v16 h =>
 (wi F L (.call QdE [(.c a0)]) E0 h fun v18 h =>
 (wi F L (.call QaA [(.c a0), (.c (.str [45]))]) E0 h fun v20 h =>
 (wi F L (.call QbJ [(.c a0), (.c (.int .i64 2))]) E0 h fun v22 h =>
 (wi F L (.call QaA [(.c a0), (.c (.str [32]))]) E0 h fun v24 h =>
 (wi F L (.call QdI [(.c a0)]) E0 h fun v26 h =>
 (wi F L (.call QaA [(.c a0), (.c (.str [32, 71, 77, 84]))]) E0 h fun v28 h =>
 (wi F L (.bin .geq (.c v22) (.c (.int .i64 70))) E0 h fun v30 h =>
 (wb v30
 (wi F L (.bin .add (.c v22) (.c (.int .i64 1900))) E0 h fun v32 h =>
 (Qg1 L K a0 v10 v14 v18 v32 v26 h))
 (wi F L (.bin .add (.c v22) (.c (.int .i64 2000))) E0 h fun v34 h =>
 (Qg1 L K a0 v10 v14 v18 v34 v26 h))))))))))))))
theorem QGU {L : QL} {K : QK} {a0 : V} {h : Heap} (hp : Qmp L K a0 h) : Cf F L Qec [a0] h K :=
  wcallp QBH (of_decide_eq_true (by kernel_rfl)) (p := Qmp L K a0 h) (by kernel_rfl) hp
def QiE (L : QL) (K : QK) (v0 v4 v5 v6 : V) (h : Heap) : Prop :=
 (wi F L (.call QbJ [(.c v0), (.c v6)]) E0 h fun v36 h =>
 (wi F L (.call QaA [(.c v0), (.c (.str [32]))]) E0 h fun v38 h =>
 (wi F L (.call QdI [(.c v0)]) E0 h fun v40 h =>
 (wi F L (.call QaA [(.c v0), (.c (.str [32]))]) E0 h fun v42 h =>
 (wi F L (.call QbJ [(.c v0), (.c (.int .i64 4))]) E0 h fun v44 h =>
 (wi F L (.call Qeb [(.c v0), (.c v4), (.c v44), (.c v5), (.c v36), (.c v40)]) E0 h fun v51 h =>
 (wi F L (.ext 0 (.c v51)) E0 h fun v52 h =>
 (wi F L (.ext 1 (.c v51)) E0 h fun v53 h =>
 (∃ v, Qa h (Qd [v52, v53]) [.tmp 0, .tmp 1] = some v ∧ K v h)))))))))
def Qlm (L : QL) (K : QK) (a0 : V) (h : Heap) : Prop :=
 (wi F L (.call QdD [(.c a0), (.c (.bool false))]) E0 h fun v11 h =>
 (wi F L (.call QaA [(.c a0), (.c (.str [32]))]) E0 h fun v13 h =>
 (wi F L (.call QdE [(.c a0)]) E0 h fun v15 h =>
 (wi F L (.call QaA [(.c a0), (.c (.str [32]))]) E0 h fun v17 h =>
 (wi F L (.nilck (.c a0)) E0 h fun v19 h =>
 (wi F L (.faddr 0 (.c v19)) E0 h fun v20 h =>
 (wi F L (.load false 1 (.c v20)) E0 h fun v21 h =>
 (wi F L (.len 0 (.c v21)) E0 h fun v22 h =>
 (wi F L (.bin .gtr (.c v22) (.c (.int .i64 0))) E0 h fun v23 h =>
 (wg v23 true (wi F L (.mv (.c a0)) E0 h) h fun v25 h =>
 (wg v23 true (wi F L (.nilck (.c v25)) E0 h) h fun v26 h =>
 (wg v23 true (wi F L (.faddr 0 (.c v26)) E0 h) h fun v27 h =>
 (wg v23 true (wi F L (.load false 1 (.c v27)) E0 h) h fun v28 h =>
 (wg v23 true (wi F L (.ixStr (.c v28) (.c (.int .i64 0))) E0 h) h fun v29 h =>
 (wg v23 true (wi F L (.bin .eql (.c v29) (.c (.int .u8 32))) E0 h) h fun v30 h =>
 (wi F L (.pick (.c v23) (.c v30) (.c (.bool false))) E0 h fun v31 h =>
 (wb v31
 (wi F L (.call QcQ [(.c a0), (.c (.int .i64 1))]) E0 h fun v33 h =>
 (QiE L K a0 v11 v15 (.int .i64 1) h))
 (QiE L K a0 v11 v15 (.int .i64 2) h))))))))))))))))))
theorem QCu {L : QL} {K : QK} {a0 : V} {h : Heap} (hp : Qlm L K a0 h) : Cf F L Qd4 [a0] h K :=
  wcallp Qxe (of_decide_eq_true (by kernel_rfl)) (p := Qlm L K a0 h) (by kernel_rfl) hp
def Qja (L : QL) (K : QK) (v0 v1 : V) (h : Heap) : Prop :=
 (wi F L (.call QAz [(.c v0), (.c v1)]) E0 h fun v40 h =>
 (wi F L (.call QIe [(.c v40), (.c v1)]) E0 h fun v42 h =>
 (∃ v, some v42 = some v ∧ K v h)))
def Qkp (L : QL) (K : QK) (v0 v1 : V) (h : Heap) : Prop :=
 (wi F L (.call Qgs [(.c v1)]) E0 h fun v31 h =>
 (wi F L (.ext 0 (.c v31)) E0 h fun v32 h =>
 (wi F L (.ext 1 (.c v31)) E0 h fun v33 h =>
 (wi F L (.boxz (List.replicate 256 (.bool false))) E0 h fun v5 h =>
 (wi F L (.store 256 (.c v5) (.c v32)) E0 h fun _ h =>
 (wb v33
 (wi F L (.call Qgx [(.c v0), (.c v5)]) E0 h fun v36 h =>
 (wi F L (.call Qfy [(.c v36), (.c v5)]) E0 h fun v37 h =>
 (∃ v, some v37 = some v ∧ K v h)))
 (Qja L K v0 v1 h)))))))
def Qkn (L : QL) (K : QK) (v0 v1 : V) (h : Heap) : Prop :=
 (wi F L (.len 0 (.c v1)) E0 h fun v15 h =>
 (wi F L (.bin .eql (.c v15) (.c (.int .i64 1))) E0 h fun v16 h =>
 (wg v16 true (wi F L (.mv (.c v1)) E0 h) h fun v18 h =>
 (wg v16 true (wi F L (.ixStr (.c v18) (.c (.int .i64 0))) E0 h) h fun v19 h =>
 (wg v16 true (wi F L (.bin .lss (.c v19) (.c (.int .u8 128))) E0 h) h fun v20 h =>
 (wi F L (.pick (.c v16) (.c v20) (.c (.bool false))) E0 h fun v21 h =>
 (wb v21
 (wi F L (.ixStr (.c v1) (.c (.int .i64 0))) E0 h fun v24 h' => Ext h h' ∧
 (wi F L (.call QxT [(.c v0), (.c v24)]) E0 h' fun v25 h => Ext h' h ∧
 (wi F L (.ixStr (.c v1) (.c (.int .i64 0))) E0 h fun v27 h' => Ext h h' ∧
 (wi F L (.call QD4 [(.c v25), (.c v27)]) E0 h' fun v28 h =>
 (∃ v, some v28 = some v ∧ K v h)))))
 (Qkp L K v0 v1 h))))))))
def Qpp (L : QL) (K : QK) (a0 a1 : V) (h : Heap) : Prop :=
 (wi F L (.bin .eql (.c a0) (.c (.str []))) E0 h fun v8 h =>
 (wg v8 false (wi F L (.mv (.c a1)) E0 h) h fun v10 h =>
 (wg v8 false (wi F L (.bin .eql (.c v10) (.c (.str []))) E0 h) h fun v11 h =>
 (wi F L (.pick (.c v8) (.c (.bool true)) (.c v11)) E0 h fun v12 h =>
 (wb v12
 (∃ v, some a0 = some v ∧ K v h)
 (Qkn L K a0 a1 h))))))
theorem Qwg {L : QL} {K : QK} {a0 a1 : V} {h : Heap} (hp : Qpp L K a0 a1 h) : Cf F L Qf0 [a0, a1] h K :=
  wcallp QB7 (of_decide_eq_true (by kernel_rfl)) (p := Qpp L K a0 a1 h) (by kernel_rfl) hp
def Qs7 (L : QL) (K : QK) (v0 v6 v8 : V) (h : Heap) : Prop :=
 (wi F L (.slstr (.c v0) none (some (.c v6))) E0 h fun v51 h =>
 (∃ v, Qa h (Qd [v51, v8, (.bool true), (.bool true)]) [.tmp 0, .tmp 1, .tmp 2, .tmp 3] = some v ∧ K v h))
def Qtf (L : QL) (K : QK) (v0 v6 v7 : V) (h : Heap) : Prop :=
 (wi F L (.call Qfp [(.c v7)]) E0 h fun v44 h =>
 (wi F L (.ext 0 (.c v44)) E0 h fun v45 h =>
 (wi F L (.ext 1 (.c v44)) E0 h fun v46 h =>
 (wi F L (.un .not (.c v46)) E0 h fun v48 h =>
 (wb v48
 (∃ v, Qa h (Qd [(.str []), (.str []), (.bool false), (.bool false)]) [.tmp 0, .tmp 1, .tmp 2, .tmp 3] = some v ∧ K v h)
 (Qs7 L K v0 v6 v45 h))))))
def Qvz (L : QL) (K : QK) (v0 v6 : V) (h : Heap) : Prop :=
 (wi F L (.bin .add (.c v6) (.c (.int .i64 1))) E0 h fun v34 h =>
 (wi F L (.slstr (.c v0) (some (.c v34)) none) E0 h fun v35 h =>
 (wi F L (.call Qdx [(.c v35)]) E0 h fun v37 h =>
 (wb v37
 (wi F L (.slstr (.c v0) none (some (.c v6))) E0 h fun v40 h =>
 (∃ v, Qa h (Qd [v40, v35, (.bool true), (.bool true)]) [.tmp 0, .tmp 1, .tmp 2, .tmp 3] = some v ∧ K v h))
 (Qtf L K v0 v6 v35 h)))))
def Qn8 (L : QL) (K : QK) (v0 v6 : V) (h : Heap) : Prop :=
 (wi F L (.len 0 (.c v0)) E0 h fun v29 h =>
 (wi F L (.bin .eql (.c v6) (.c v29)) E0 h fun v30 h =>
 (wb v30
 (∃ v, Qa h (Qd [v0, (.str []), (.bool false), (.bool true)]) [.tmp 0, .tmp 1, .tmp 2, .tmp 3] = some v ∧ K v h)
 (Qvz L K v0 v6 h))))
def Qkb (L : QL) (K : QK) (v0 v6 : V) (h : Heap) : Prop :=
 (wi F L (.slstr (.c v0) none (some (.c v6))) E0 h fun v24 h =>
 (wi F L (.call Qdx [(.c v24)]) E0 h fun v25 h =>
 (wi F L (.un .not (.c v25)) E0 h fun v26 h =>
 (wb v26
 (∃ v, Qa h (Qd [(.str []), (.str []), (.bool false), (.bool false)]) [.tmp 0, .tmp 1, .tmp 2, .tmp 3] = some v ∧ K v h)
 (Qn8 L K v0 v6 h)))))
def Qsu (L : QL) (K : QK) (N0 : QN) (e : Env) (v6 : V) (h : Heap) : Prop :=
 (wi F L (.bin .add (.c v6) (.c (.int .i64 1))) E0 h fun v21 h =>
 (N0 (upd (upd (upd e 20 v6) 21 v21) 6 v21) h))
def QvA (L : QL) (K : QK) : X → Env → Heap → Prop := (fun x => (seqX (fun e h => Qkb L K (e 0) (e 6) h) (Qy Qkq.results K)) (X.out 0 x))
def Qug : C :=
 (.seq (.seq (.region [⟨(some 10), none, .mv (.t 6)⟩, ⟨(some 11), none, .mv (.t 0)⟩, ⟨(some 12), none, .len 0 (.t 11)⟩, ⟨(some 13), none, .bin .lss (.t 10) (.t 12)⟩, ⟨(some 14), none, .mv (.t 13)⟩, ⟨(some 15), (some (14, true)), .mv (.t 0)⟩, ⟨(some 16), (some (14, true)), .mv (.t 6)⟩, ⟨(some 17), (some (14, true)), .ixStr (.t 15) (.t 16)⟩, ⟨(some 18), (some (14, true)), .bin .neq (.t 17) (.c (.int .u8 61))⟩, ⟨(some 19), none, .pick (.t 14) (.t 18) (.c (.bool false))⟩])
 (.cond (.t 19)
 .skip
 (.exit 0)))
 (.block 1 (.region [⟨(some 20), none, .mv (.t 6)⟩, ⟨(some 21), none, .bin .add (.t 20) (.c (.int .i64 1))⟩, ⟨(some 6), none, .mv (.t 21)⟩])))
def Qpt (L : QL) (K : QK) (N0 : QN) (e : Env) (h : Heap) : Prop :=
 (wi F L (.len 0 (.c (e 0))) E0 h fun v12 h =>
 (wi F L (.bin .lss (.c (e 6)) (.c v12)) E0 h fun v13 h =>
 (wg v13 true (wi F L (.mv (.c (e 0))) E0 h) h fun v15 h =>
 (wg v13 true (wi F L (.mv (.c (e 6))) E0 h) h fun v16 h =>
 (wg v13 true (wi F L (.ixStr (.c v15) (.c v16)) E0 h) h fun v17 h =>
 (wg v13 true (wi F L (.bin .neq (.c v17) (.c (.int .u8 61))) E0 h) h fun v18 h =>
 (wi F L (.pick (.c v13) (.c v18) (.c (.bool false))) E0 h fun v19 h =>
 (wb v19
 (Qsu L K N0 (upd (upd (upd (upd (upd (upd (upd (upd (upd (upd e 10 (e 6)) 11 (e 0)) 12 v12) 13 v13) 14 v13) 15 v15) 16 v16) 17 v17) 18 v18) 19 v19) (e 6) h)
 (Qkb L K (e 0) (e 6) h)))))))))
theorem QwR {L : QL} {K : QK} (I : Nat → Env → Heap → Prop) (hr : ∀ n e h, I n e h → Qpt L K (fun e' h' => ∃ m, m < n ∧ I m e' h') e h) {n : Nat} {e : Env} {h : Heap} (hi : I n e h) : Wl F L Qug (QvA L K) e h :=
  wloopp (b := Qpt L K) I (fun _ _ _ => by kernel_rfl) hr hi
def Qlu (L : QL) (K : QK) (a0 : V) (h : Heap) : Prop :=
 (Wl F L Qug (QvA L K) (upd (upd (upd (upd (upd (Qd [a0]) 2 (.str [])) 3 (.str [])) 4 (.bool false)) 5 (.bool false)) 6 (.int .i64 0)) h)
theorem QJH {L : QL} {K : QK} {a0 : V} {h : Heap} (hp : Qlu L K a0 h) : Cf F L Qet [a0] h K :=
  wcallp Qx5 (of_decide_eq_true (by kernel_rfl)) (p := Qlu L K a0 h) (by kernel_rfl) hp
def Qku (L : QL) (K : QK) (v0 : V) (h : Heap) : Prop :=
 (∃ v, some v0 = some v ∧ K v h)
def Qoa (L : QL) (K : QK) (a0 a1 : V) (h : Heap) : Prop :=
 (wi F L (.bin .lss (.c a0) (.c (.int .i64 0))) E0 h fun v6 h =>
 (wg v6 false (wi F L (.mv (.c a1)) E0 h) h fun v8 h =>
 (wg v6 false (wi F L (.mv (.c a0)) E0 h) h fun v9 h =>
 (wg v6 false (wi F L (.bin .lss (.c v8) (.c v9)) E0 h) h fun v10 h =>
 (wi F L (.pick (.c v6) (.c (.bool true)) (.c v10)) E0 h fun v11 h =>
 (wb v11
 (∃ v, some a1 = some v ∧ K v h)
 (Qku L K a0 h)))))))
theorem QJS {L : QL} {K : QK} {a0 a1 : V} {h : Heap} (hp : Qoa L K a0 a1 h) : Cf F L QaV [a0, a1] h K :=
  wcallp Qz8 (of_decide_eq_true (by kernel_rfl)) (p := Qoa L K a0 a1 h) (by kernel_rfl) hp
def Qin (L : QL) (K : QK) (v4 v12 : V) (h : Heap) : Prop :=
 (wi F L (.bin .mul (.c v12) (.c (.int .i64 86400))) E0 h fun v31 h =>
 (wi F L (.bin .add (.c v31) (.c v4)) E0 h fun v33 h =>
 (∃ v, Qa h (Qd [v33, (.bool true)]) [.tmp 0, .tmp 1] = some v ∧ K v h)))
def Qnq (L : QL) (K : QK) (a0 a1 a2 a3 a4 : V) (h : Heap) : Prop :=
 (wi F L (.call Qf3 [(.c a1), (.c a2), (.c a3)]) E0 h fun v16 h =>
 (wi F L (.bin .lss (.c v16) (.c (.int .i64 0))) E0 h fun v18 h =>
 (wg v18 false (wi F L (.mv (.c a4)) E0 h) h fun v20 h =>
 (wg v18 false (wi F L (.bin .lss (.c v20) (.c (.int .i64 0))) E0 h) h fun v21 h =>
 (wi F L (.pick (.c v18) (.c (.bool true)) (.c v21)) E0 h fun v22 h =>
 (wg v22 false (wi F L (.mv (.c a0)) E0 h) h fun v24 h =>
 (wg v22 false (wi F L (.mv (.c v16)) E0 h) h fun v25 h =>
 (wg v22 false (wi F L (.bin .add (.c v25) (.c (.int .i64 3))) E0 h) h fun v26 h =>
 (wg v22 false (wi F L (.bin .rem (.c v26) (.c (.int .i64 7))) E0 h) h fun v27 h =>
 (wg v22 false (wi F L (.bin .neq (.c v24) (.c v27)) E0 h) h fun v28 h =>
 (wi F L (.pick (.c v22) (.c (.bool true)) (.c v28)) E0 h fun v29 h =>
 (wb v29
 (∃ v, Qa h (Qd [(.int .i64 0), (.bool false)]) [.tmp 0, .tmp 1] = some v ∧ K v h)
 (Qin L K a4 v16 h)))))))))))))
theorem QzJ {L : QL} {K : QK} {a0 a1 a2 a3 a4 : V} {h : Heap} (hp : Qnq L K a0 a1 a2 a3 a4 h) : Cf F L Qcd [a0, a1, a2, a3, a4] h K :=
  wcallp Qwf (of_decide_eq_true (by kernel_rfl)) (p := Qnq L K a0 a1 a2 a3 a4 h) (by kernel_rfl) hp
def QhH (L : QL) (K : QK) (h : Heap) : Prop :=
 (∃ v, some (.int .i64 (-1)) = some v ∧ K v h)
def Qjr (L : QL) (K : QK) (N0 : QN) (e : Env) (v5 : V) (h : Heap) : Prop :=
 (wi F L (.bin .add (.c v5) (.c (.int .i64 1))) E0 h fun v11 h =>
 (N0 (upd (upd (upd e 10 v5) 11 v11) 5 v11) h))
def QjZ (L : QL) (K : QK) (N0 : QN) (e : Env) (v0 v1 v5 : V) (h : Heap) : Prop :=
 (wi F L (.ixaSl 1 (.c v0) (.c v5)) E0 h fun v14 h =>
 (wi F L (.load false 1 (.c v14)) E0 h fun v15 h =>
 (wi F L (.bin .eql (.c v15) (.c v1)) E0 h fun v17 h =>
 (wb v17
 (∃ v, some v5 = some v ∧ K v h)
 (Qjr L K N0 (upd (upd (upd (upd (upd (upd e 12 v0) 13 v5) 14 v14) 15 v15) 16 v1) 17 v17) v5 h)))))
def Qs5 (L : QL) (K : QK) : X → Env → Heap → Prop := (fun x => (seqX (fun e h => QhH L K  h) (Qy Qj8.results K)) (X.out 0 x))
def Qv1 : C :=
 (.seq (.seq (.region [⟨(some 6), none, .mv (.t 5)⟩, ⟨(some 7), none, .mv (.t 0)⟩, ⟨(some 8), none, .len 1 (.t 7)⟩, ⟨(some 9), none, .bin .lss (.t 6) (.t 8)⟩])
 (.cond (.t 9)
 .skip
 (.exit 0)))
 (.seq (.block 1 (.seq (.region [⟨(some 12), none, .mv (.t 0)⟩, ⟨(some 13), none, .mv (.t 5)⟩, ⟨(some 14), none, .ixaSl 1 (.t 12) (.t 13)⟩, ⟨(some 15), none, .load false 1 (.t 14)⟩, ⟨(some 16), none, .mv (.t 1)⟩, ⟨(some 17), none, .bin .eql (.t 15) (.t 16)⟩])
 (.cond (.t 17)
 (.seq (.region [⟨(some 18), none, .mv (.t 5)⟩, ⟨(some 4), none, .mv (.t 18)⟩])
 .ret)
 .skip)))
 (.region [⟨(some 10), none, .mv (.t 5)⟩, ⟨(some 11), none, .bin .add (.t 10) (.c (.int .i64 1))⟩, ⟨(some 5), none, .mv (.t 11)⟩])))
def QqZ (L : QL) (K : QK) (N0 : QN) (e : Env) (h : Heap) : Prop :=
 (wi F L (.len 1 (.c (e 0))) E0 h fun v8 h =>
 (wi F L (.bin .lss (.c (e 5)) (.c v8)) E0 h fun v9 h =>
 (wb v9
 (QjZ L K N0 (upd (upd (upd (upd e 6 (e 5)) 7 (e 0)) 8 v8) 9 v9) (e 0) (e 1) (e 5) h)
 (QhH L K  h))))
theorem Qze {L : QL} {K : QK} (I : Nat → Env → Heap → Prop) (hr : ∀ n e h, I n e h → QqZ L K (fun e' h' => ∃ m, m < n ∧ I m e' h') e h) {n : Nat} {e : Env} {h : Heap} (hi : I n e h) : Wl F L Qv1 (Qs5 L K) e h :=
  wloopp (b := QqZ L K) I (fun _ _ _ => by kernel_rfl) hr hi
def Qp0 (L : QL) (K : QK) (a0 a1 : V) (h : Heap) : Prop :=
 (Wl F L Qv1 (Qs5 L K) (upd (upd (Qd [a0, a1]) 4 (.int .i64 0)) 5 (.int .i64 0)) h)
theorem QEr {L : QL} {K : QK} {a0 a1 : V} {h : Heap} (hp : Qp0 L K a0 a1 h) : Cf F L QcK [a0, a1] h K :=
  wcallp QBP (of_decide_eq_true (by kernel_rfl)) (p := Qp0 L K a0 a1 h) (by kernel_rfl) hp
def Qpi (L : QL) (K : QK) (h : Heap) : Prop :=
 (wi F L (.bsl 1 [(.c (.str [77, 111, 110])), (.c (.str [84, 117, 101])), (.c (.str [87, 101, 100])), (.c (.str [84, 104, 117])), (.c (.str [70, 114, 105])), (.c (.str [83, 97, 116])), (.c (.str [83, 117, 110]))]) E0 h fun v1 h =>
 (∃ v, some v1 = some v ∧ K v h))
theorem QC7 {L : QL} {K : QK} {h : Heap} (hp : Qpi L K  h) : Cf F L Qe3 [] h K :=
  wcallp QxK (of_decide_eq_true (by kernel_rfl)) (p := Qpi L K  h) (by kernel_rfl) hp
def Qhs (L : QL) (K : QK) (v3 : V) (h : Heap) : Prop :=
 (∃ v, some v3 = some v ∧ K v h)
def QiF (L : QL) (K : QK) (N0 : QN) (e : Env) (v4 : V) (h : Heap) : Prop :=
 (wi F L (.bin .add (.c v4) (.c (.int .i64 1))) E0 h fun v10 h =>
 (N0 (upd (upd (upd e 9 v4) 10 v10) 4 v10) h))
def Qim (L : QL) (K : QK) (N0 : QN) (e : Env) (v0 v3 v4 : V) (h : Heap) : Prop :=
 (wi F L (.bin .mul (.c v3) (.c (.int .i64 10))) E0 h fun v22 h =>
 (wi F L (.ixStr (.c v0) (.c v4)) E0 h fun v25 h =>
 (wi F L (.bin .sub (.c v25) (.c (.int .u8 48))) E0 h fun v26 h =>
 (wi F L (.toInt .i64 (.c v26)) E0 h fun v27 h =>
 (wi F L (.bin .add (.c v22) (.c v27)) E0 h fun v28 h =>
 (QiF L K N0 (upd (upd (upd (upd (upd (upd (upd (upd (upd e 21 v3) 22 v22) 23 v0) 24 v4) 25 v25) 26 v26) 27 v27) 28 v28) 3 v28) v4 h))))))
def QhQ (L : QL) (K : QK) (N0 : QN) (e : Env) (v0 v3 v4 : V) (h : Heap) : Prop :=
 (wi F L (.ixStr (.c v0) (.c v4)) E0 h fun v13 h =>
 (wi F L (.bin .lss (.c v13) (.c (.int .u8 48))) E0 h fun v14 h =>
 (wg v14 false (wi F L (.mv (.c v0)) E0 h) h fun v16 h =>
 (wg v14 false (wi F L (.mv (.c v4)) E0 h) h fun v17 h =>
 (wg v14 false (wi F L (.ixStr (.c v16) (.c v17)) E0 h) h fun v18 h =>
 (wg v14 false (wi F L (.bin .gtr (.c v18) (.c (.int .u8 57))) E0 h) h fun v19 h =>
 (wi F L (.pick (.c v14) (.c (.bool true)) (.c v19)) E0 h fun v20 h =>
 (wb v20
 (∃ v, some (.int .i64 (-1)) = some v ∧ K v h)
 (Qim L K N0 (upd (upd (upd (upd (upd (upd (upd (upd (upd (upd e 11 v0) 12 v4) 13 v13) 14 v14) 15 v14) 16 v16) 17 v17) 18 v18) 19 v19) 20 v20) v0 v3 v4 h)))))))))
def Qtb (L : QL) (K : QK) : X → Env → Heap → Prop := (fun x => (seqX (fun e h => Qhs L K (e 3) h) (Qy QiS.results K)) (X.out 0 x))
def Qtn : C :=
 (.seq (.seq (.region [⟨(some 5), none, .mv (.t 4)⟩, ⟨(some 6), none, .mv (.t 0)⟩, ⟨(some 7), none, .len 0 (.t 6)⟩, ⟨(some 8), none, .bin .lss (.t 5) (.t 7)⟩])
 (.cond (.t 8)
 .skip
 (.exit 0)))
 (.seq (.block 1 (.seq (.seq (.region [⟨(some 11), none, .mv (.t 0)⟩, ⟨(some 12), none, .mv (.t 4)⟩, ⟨(some 13), none, .ixStr (.t 11) (.t 12)⟩, ⟨(some 14), none, .bin .lss (.t 13) (.c (.int .u8 48))⟩, ⟨(some 15), none, .mv (.t 14)⟩, ⟨(some 16), (some (15, false)), .mv (.t 0)⟩, ⟨(some 17), (some (15, false)), .mv (.t 4)⟩, ⟨(some 18), (some (15, false)), .ixStr (.t 16) (.t 17)⟩, ⟨(some 19), (some (15, false)), .bin .gtr (.t 18) (.c (.int .u8 57))⟩, ⟨(some 20), none, .pick (.t 15) (.c (.bool true)) (.t 19)⟩])
 (.cond (.t 20)
 (.seq (.region [⟨(some 2), none, .mv (.c (.int .i64 (-1)))⟩])
 .ret)
 .skip))
 (.region [⟨(some 21), none, .mv (.t 3)⟩, ⟨(some 22), none, .bin .mul (.t 21) (.c (.int .i64 10))⟩, ⟨(some 23), none, .mv (.t 0)⟩, ⟨(some 24), none, .mv (.t 4)⟩, ⟨(some 25), none, .ixStr (.t 23) (.t 24)⟩, ⟨(some 26), none, .bin .sub (.t 25) (.c (.int .u8 48))⟩, ⟨(some 27), none, .toInt .i64 (.t 26)⟩, ⟨(some 28), none, .bin .add (.t 22) (.t 27)⟩, ⟨(some 3), none, .mv (.t 28)⟩])))
 (.region [⟨(some 9), none, .mv (.t 4)⟩, ⟨(some 10), none, .bin .add (.t 9) (.c (.int .i64 1))⟩, ⟨(some 4), none, .mv (.t 10)⟩])))
def Qoj (L : QL) (K : QK) (N0 : QN) (e : Env) (h : Heap) : Prop :=
 (wi F L (.len 0 (.c (e 0))) E0 h fun v7 h =>
 (wi F L (.bin .lss (.c (e 4)) (.c v7)) E0 h fun v8 h =>
 (wb v8
 (QhQ L K N0 (upd (upd (upd (upd e 5 (e 4)) 6 (e 0)) 7 v7) 8 v8) (e 0) (e 3) (e 4) h)
 (Qhs L K (e 3) h))))
theorem QCo {L : QL} {K : QK} (I : Nat → Env → Heap → Prop) (hr : ∀ n e h, I n e h → Qoj L K (fun e' h' => ∃ m, m < n ∧ I m e' h') e h) {n : Nat} {e : Env} {h : Heap} (hi : I n e h) : Wl F L Qtn (Qtb L K) e h :=
  wloopp (b := Qoj L K) I (fun _ _ _ => by kernel_rfl) hr hi
def Qmt (L : QL) (K : QK) (a0 : V) (h : Heap) : Prop :=
 (Wl F L Qtn (Qtb L K) (upd (upd (upd (Qd [a0]) 2 (.int .i64 0)) 3 (.int .i64 0)) 4 (.int .i64 0)) h)
theorem QEV {L : QL} {K : QK} {a0 : V} {h : Heap} (hp : Qmt L K a0 h) : Cf F L QaT [a0] h K :=
  wcallp Qzh (of_decide_eq_true (by kernel_rfl)) (p := Qmt L K a0 h) (by kernel_rfl) hp
def Qnk (L : QL) (K : QK) (h : Heap) : Prop :=
 (wi F L (.bsl 1 [(.c (.str [74, 97, 110])), (.c (.str [70, 101, 98])), (.c (.str [77, 97, 114])), (.c (.str [65, 112, 114])), (.c (.str [77, 97, 121])), (.c (.str [74, 117, 110])), (.c (.str [74, 117, 108])), (.c (.str [65, 117, 103])), (.c (.str [83, 101, 112])), (.c (.str [79, 99, 116])), (.c (.str [78, 111, 118])), (.c (.str [68, 101, 99]))]) E0 h fun v1 h =>
 (∃ v, some v1 = some v ∧ K v h))
theorem QJX {L : QL} {K : QK} {h : Heap} (hp : Qnk L K  h) : Cf F L Qdg [] h K :=
  wcallp QIm (of_decide_eq_true (by kernel_rfl)) (p := Qnk L K  h) (by kernel_rfl) hp
def Qbu (L : QL) (K : QK) (v3 v4 v5 : V) (h : Heap) : Prop :=
 (wi F L (.bin .mul (.c v3) (.c (.int .i64 3600))) E0 h fun v53 h =>
 (wi F L (.bin .mul (.c v4) (.c (.int .i64 60))) E0 h fun v55 h =>
 (wi F L (.bin .add (.c v53) (.c v55)) E0 h fun v56 h =>
 (wi F L (.bin .add (.c v56) (.c v5)) E0 h fun v58 h =>
 (∃ v, some v58 = some v ∧ K v h)))))
def QbH (L : QL) (K : QK) (v3 v4 v5 : V) (h : Heap) : Prop :=
 (wi F L (.bin .eql (.c v5) (.c (.int .i64 60))) E0 h fun v51 h =>
 (wb v51
 (Qbu L K v3 v4 (.int .i64 59) h)
 (Qbu L K v3 v4 v5 h)))
def QbL (L : QL) (K : QK) (v0 : V) (h : Heap) : Prop :=
 (wi F L (.slstr (.c v0) none (some (.c (.int .i64 2)))) E0 h fun v20 h =>
 (wi F L (.call QaT [(.c v20)]) E0 h fun v21 h =>
 (wi F L (.slstr (.c v0) (some (.c (.int .i64 3))) (some (.c (.int .i64 5)))) E0 h fun v23 h =>
 (wi F L (.call QaT [(.c v23)]) E0 h fun v24 h =>
 (wi F L (.slstr (.c v0) (some (.c (.int .i64 6))) none) E0 h fun v26 h =>
 (wi F L (.call QaT [(.c v26)]) E0 h fun v27 h =>
 (wi F L (.bin .lss (.c v21) (.c (.int .i64 0))) E0 h fun v29 h =>
 (wg v29 false (wi F L (.mv (.c v21)) E0 h) h fun v31 h =>
 (wg v29 false (wi F L (.bin .gtr (.c v31) (.c (.int .i64 23))) E0 h) h fun v32 h =>
 (wi F L (.pick (.c v29) (.c (.bool true)) (.c v32)) E0 h fun v33 h =>
 (wg v33 false (wi F L (.mv (.c v24)) E0 h) h fun v35 h =>
 (wg v33 false (wi F L (.bin .lss (.c v35) (.c (.int .i64 0))) E0 h) h fun v36 h =>
 (wi F L (.pick (.c v33) (.c (.bool true)) (.c v36)) E0 h fun v37 h =>
 (wg v37 false (wi F L (.mv (.c v24)) E0 h) h fun v39 h =>
 (wg v37 false (wi F L (.bin .gtr (.c v39) (.c (.int .i64 59))) E0 h) h fun v40 h =>
 (wi F L (.pick (.c v37) (.c (.bool true)) (.c v40)) E0 h fun v41 h =>
 (wg v41 false (wi F L (.mv (.c v27)) E0 h) h fun v43 h =>
 (wg v41 false (wi F L (.bin .lss (.c v43) (.c (.int .i64 0))) E0 h) h fun v44 h =>
 (wi F L (.pick (.c v41) (.c (.bool true)) (.c v44)) E0 h fun v45 h =>
 (wg v45 false (wi F L (.mv (.c v27)) E0 h) h fun v47 h =>
 (wg v45 false (wi F L (.bin .gtr (.c v47) (.c (.int .i64 60))) E0 h) h fun v48 h =>
 (wi F L (.pick (.c v45) (.c (.bool true)) (.c v48)) E0 h fun v49 h =>
 (wb v49
 (∃ v, some (.int .i64 (-1)) = some v ∧ K v h)
 (QbH L K v21 v24 v27 h))))))))))))))))))))))))
def Qnj (L : QL) (K : QK) (a0 : V) (h : Heap) : Prop :=
 (wi F L (.len 0 (.c a0)) E0 h fun v7 h =>
 (wi F L (.bin .neq (.c v7) (.c (.int .i64 8))) E0 h fun v8 h =>
 (wg v8 false (wi F L (.mv (.c a0)) E0 h) h fun v10 h =>
 (wg v8 false (wi F L (.ixStr (.c v10) (.c (.int .i64 2))) E0 h) h fun v11 h =>
 (wg v8 false (wi F L (.bin .neq (.c v11) (.c (.int .u8 58))) E0 h) h fun v12 h =>
 (wi F L (.pick (.c v8) (.c (.bool true)) (.c v12)) E0 h fun v13 h =>
 (wg v13 false (wi F L (.mv (.c a0)) E0 h) h fun v15 h =>
 (wg v13 false (wi F L (.ixStr (.c v15) (.c (.int .i64 5))) E0 h) h fun v16 h =>
 (wg v13 false (wi F L (.bin .neq (.c v16) (.c (.int .u8 58))) E0 h) h fun v17 h =>
 (wi F L (.pick (.c v13) (.c (.bool true)) (.c v17)) E0 h fun v18 h =>
 (wb v18
 (∃ v, some (.int .i64 (-1)) = some v ∧ K v h)
 (QbL L K a0 h))))))))))))
theorem Qyt {L : QL} {K : QK} {a0 : V} {h : Heap} (hp : Qnj L K a0 h) : Cf F L Qdo [a0] h K :=
  wcallp QwB (of_decide_eq_true (by kernel_rfl)) (p := Qnj L K a0 h) (by kernel_rfl) hp
def Qmk (L : QL) (K : QK) (a0 : V) (h : Heap) : Prop :=
 (wi F L (.bin .eql (.c a0) (.c (.int .u8 32))) E0 h fun v4 h =>
 (wg v4 false (wi F L (.mv (.c a0)) E0 h) h fun v6 h =>
 (wg v4 false (wi F L (.bin .eql (.c v6) (.c (.int .u8 9))) E0 h) h fun v7 h =>
 (wi F L (.pick (.c v4) (.c (.bool true)) (.c v7)) E0 h fun v8 h =>
 (∃ v, some v8 = some v ∧ K v h)))))
theorem QGx {L : QL} {K : QK} {a0 : V} {h : Heap} (hp : Qmk L K a0 h) : Cf F L Qdw [a0] h K :=
  wcallp Qwk (of_decide_eq_true (by kernel_rfl)) (p := Qmk L K a0 h) (by kernel_rfl) hp
def Qh2 (L : QL) (K : QK) (v0 : V) (h : Heap) : Prop :=
 (wi F L (.len 0 (.c v0)) E0 h fun v16 h =>
 (wi F L (.bin .gtr (.c v16) (.c (.int .i64 0))) E0 h fun v17 h =>
 (∃ v, some v17 = some v ∧ K v h)))
def QjL (L : QL) (K : QK) (N0 : QN) (e : Env) (v3 : V) (h : Heap) : Prop :=
 (wi F L (.bin .add (.c v3) (.c (.int .i64 1))) E0 h fun v9 h =>
 (N0 (upd (upd (upd e 8 v3) 9 v9) 3 v9) h))
def Qi8 (L : QL) (K : QK) (N0 : QN) (e : Env) (v0 v3 : V) (h : Heap) : Prop :=
 (wi F L (.ixStr (.c v0) (.c v3)) E0 h fun v12 h =>
 (wi F L (.call Qeq [(.c v12)]) E0 h fun v13 h =>
 (wi F L (.un .not (.c v13)) E0 h fun v14 h =>
 (wb v14
 (∃ v, some (.bool false) = some v ∧ K v h)
 (QjL L K N0 (upd (upd (upd (upd (upd e 10 v0) 11 v3) 12 v12) 13 v13) 14 v14) v3 h)))))
def QuK (L : QL) (K : QK) : X → Env → Heap → Prop := (fun x => (seqX (fun e h => Qh2 L K (e 0) h) (Qy QjJ.results K)) (X.out 0 x))
def QuZ : C :=
 (.seq (.seq (.region [⟨(some 4), none, .mv (.t 3)⟩, ⟨(some 5), none, .mv (.t 0)⟩, ⟨(some 6), none, .len 0 (.t 5)⟩, ⟨(some 7), none, .bin .lss (.t 4) (.t 6)⟩])
 (.cond (.t 7)
 .skip
 (.exit 0)))
 (.seq (.block 1 (.seq (.region [⟨(some 10), none, .mv (.t 0)⟩, ⟨(some 11), none, .mv (.t 3)⟩, ⟨(some 12), none, .ixStr (.t 10) (.t 11)⟩, ⟨(some 13), none, .call Qeq [(.t 12)]⟩, ⟨(some 14), none, .un .not (.t 13)⟩])
 (.cond (.t 14)
 (.seq (.region [⟨(some 2), none, .mv (.c (.bool false))⟩])
 .ret)
 .skip)))
 (.region [⟨(some 8), none, .mv (.t 3)⟩, ⟨(some 9), none, .bin .add (.t 8) (.c (.int .i64 1))⟩, ⟨(some 3), none, .mv (.t 9)⟩])))
def Qnp (L : QL) (K : QK) (N0 : QN) (e : Env) (h : Heap) : Prop :=
 (wi F L (.len 0 (.c (e 0))) E0 h fun v6 h =>
 (wi F L (.bin .lss (.c (e 3)) (.c v6)) E0 h fun v7 h =>
 (wb v7
 (Qi8 L K N0 (upd (upd (upd (upd e 4 (e 3)) 5 (e 0)) 6 v6) 7 v7) (e 0) (e 3) h)
 (Qh2 L K (e 0) h))))
theorem QA8 {L : QL} {K : QK} (I : Nat → Env → Heap → Prop) (hr : ∀ n e h, I n e h → Qnp L K (fun e' h' => ∃ m, m < n ∧ I m e' h') e h) {n : Nat} {e : Env} {h : Heap} (hi : I n e h) : Wl F L QuZ (QuK L K) e h :=
  wloopp (b := Qnp L K) I (fun _ _ _ => by kernel_rfl) hr hi
def QnB (L : QL) (K : QK) (a0 : V) (h : Heap) : Prop :=
 (Wl F L QuZ (QuK L K) (upd (upd (Qd [a0]) 2 (.bool false)) 3 (.int .i64 0)) h)
theorem QyU {L : QL} {K : QK} {a0 : V} {h : Heap} (hp : QnB L K a0 h) : Cf F L Qdx [a0] h K :=
  wcallp QAH (of_decide_eq_true (by kernel_rfl)) (p := QnB L K a0 h) (by kernel_rfl) hp
def Qfq (L : QL) (K : QK) (h : Heap) : Prop :=
 (∃ v, some (.bool false) = some v ∧ K v h)
def QgQ (L : QL) (K : QK) (N0 : QN) (e : Env) (v23 : V) (h : Heap) : Prop :=
 (wi F L (.bin .add (.c v23) (.c (.int .i64 1))) E0 h fun v29 h =>
 (N0 (upd (upd e 29 v29) 23 v29) h))
def Qg9 (L : QL) (K : QK) (N0 : QN) (e : Env) (v0 v22 v23 : V) (h : Heap) : Prop :=
 (wi F L (.ixArr 15 1 false (.c v22) (.c v23)) E0 h fun v25 h =>
 (wi F L (.bin .eql (.c v25) (.c v0)) E0 h fun v28 h =>
 (wb v28
 (∃ v, some (.bool true) = some v ∧ K v h)
 (QgQ L K N0 (upd (upd (upd (upd (upd e 25 v25) 5 v25) 26 v25) 27 v0) 28 v28) v23 h))))
def QkS (L : QL) (K : QK) : X → Env → Heap → Prop := (fun x => (seqX (fun e h => Qfq L K  h) (Qy Qjx.results K)) (X.out 0 x))
def Qnm : C :=
 (.seq (.region [⟨(some 24), none, .bin .lss (.t 23) (.c (.int .i64 15))⟩])
 (.seq (.cond (.t 24)
 .skip
 (.exit 0))
 (.seq (.block 1 (.seq (.region [⟨(some 25), none, .ixArr 15 1 false (.t 22) (.t 23)⟩, ⟨(some 5), none, .mv (.t 25)⟩])
 (.seq (.region [⟨(some 26), none, .mv (.t 5)⟩, ⟨(some 27), none, .mv (.t 0)⟩, ⟨(some 28), none, .bin .eql (.t 26) (.t 27)⟩])
 (.cond (.t 28)
 (.seq (.region [⟨(some 2), none, .mv (.c (.bool true))⟩])
 .ret)
 .skip))))
 (.region [⟨(some 29), none, .bin .add (.t 23) (.c (.int .i64 1))⟩, ⟨(some 23), none, .mv (.t 29)⟩]))))
def QlK (L : QL) (K : QK) (N0 : QN) (e : Env) (h : Heap) : Prop :=
 (wi F L (.bin .lss (.c (e 23)) (.c (.int .i64 15))) E0 h fun v24 h =>
 (wb v24
 (Qg9 L K N0 (upd e 24 v24) (e 0) (e 22) (e 23) h)
 (Qfq L K  h)))
theorem Qz6 {L : QL} {K : QK} (I : Nat → Env → Heap → Prop) (hr : ∀ n e h, I n e h → QlK L K (fun e' h' => ∃ m, m < n ∧ I m e' h') e h) {n : Nat} {e : Env} {h : Heap} (hi : I n e h) : Wl F L Qnm (QkS L K) e h :=
  wloopp (b := QlK L K) I (fun _ _ _ => by kernel_rfl) hr hi
def Qhe (L : QL) (K : QK) (e : Env) (h : Heap) : Prop :=
 (wi F L (.call QfE []) E0 h fun v22 h =>
 (Wl F L Qnm (QkS L K) (upd (upd e 22 v22) 23 (.int .i64 0)) h))
def Qrc (L : QL) (K : QK) (a0 : V) (h : Heap) : Prop :=
 (wi F L (.bin .or (.c a0) (.c (.int .u8 32))) E0 h fun v7 h =>
 (wi F L (.bin .geq (.c v7) (.c (.int .u8 97))) E0 h fun v9 h =>
 (wg v9 true (wi F L (.mv (.c v7)) E0 h) h fun v11 h =>
 (wg v9 true (wi F L (.bin .leq (.c v11) (.c (.int .u8 122))) E0 h) h fun v12 h =>
 (wi F L (.pick (.c v9) (.c v12) (.c (.bool false))) E0 h fun v13 h =>
 (wg v13 false (wi F L (.mv (.c a0)) E0 h) h fun v15 h =>
 (wg v13 false (wi F L (.bin .geq (.c v15) (.c (.int .u8 48))) E0 h) h fun v16 h =>
 (wg v13 false (wi F L (.mv (.c v16)) E0 h) h fun v17 h =>
 (wg v17 true (wi F L (.mv (.c a0)) E0 h) h fun v18 h =>
 (wg v17 true (wi F L (.bin .leq (.c v18) (.c (.int .u8 57))) E0 h) h fun v19 h =>
 (wg v13 false (wi F L (.pick (.c v17) (.c v19) (.c (.bool false))) E0 h) h fun v20 h =>
 (wi F L (.pick (.c v13) (.c (.bool true)) (.c v20)) E0 h fun v21 h =>
 (wb v21
 (∃ v, some (.bool true) = some v ∧ K v h)
 (Qhe L K (upd (upd (upd (upd (upd (upd (upd (upd (upd (upd (upd (upd (upd (upd (upd (upd (upd (upd (Qd [a0]) 2 (.bool false)) 6 a0) 7 v7) 3 v7) 8 v7) 9 v9) 10 v9) 11 v11) 12 v12) 13 v13) 14 v13) 15 v15) 16 v16) 17 v17) 18 v18) 19 v19) 20 v20) 21 v21)  h))))))))))))))
theorem QzQ {L : QL} {K : QK} {a0 : V} {h : Heap} (hp : Qrc L K a0 h) : Cf F L Qgb [a0] h K :=
  wcallp Qw1 (of_decide_eq_true (by kernel_rfl)) (p := Qrc L K a0 h) (by kernel_rfl) hp
def QlU (L : QL) (K : QK) (a0 a1 a2 : V) (h : Heap) : Prop :=
 (wi F L (.load false 1 (.c a2)) E0 h fun v5 h =>
 (wi F L (.build [.nfn, .nfn, (.int .i64 0), (.int .i64 0)] [(0, 1, (.c a1))]) E0 h fun v8 h =>
 (wi F L (.mapset .s (.c v5) (.c a0) (.c v8)) E0 h fun _ h =>
 (∃ v, Qa h (Qd []) [] = some v ∧ K v h))))
theorem QKa {L : QL} {K : QK} {a0 a1 a2 : V} {h : Heap} (hp : QlU L K a0 a1 a2 h) : Cf F L Qf1 [a0, a1, a2] h K :=
  wcallp QIt (of_decide_eq_true (by kernel_rfl)) (p := QlU L K a0 a1 a2 h) (by kernel_rfl) hp
def Qml (L : QL) (K : QK) (a0 a1 a2 a3 a4 : V) (h : Heap) : Prop :=
 (wi F L (.load false 1 (.c a4)) E0 h fun v9 h =>
 (wi F L (.build [.nfn, .nfn, (.int .i64 0), (.int .i64 0)] [(1, 1, (.c a3)), (2, 1, (.c a1)), (3, 1, (.c a2))]) E0 h fun v14 h =>
 (wi F L (.mapset .s (.c v9) (.c a0) (.c v14)) E0 h fun _ h =>
 (∃ v, Qa h (Qd []) [] = some v ∧ K v h))))
theorem QDB {L : QL} {K : QK} {a0 a1 a2 a3 a4 : V} {h : Heap} (hp : Qml L K a0 a1 a2 a3 a4 h) : Cf F L Qgu [a0, a1, a2, a3, a4] h K :=
  wcallp Qyu (of_decide_eq_true (by kernel_rfl)) (p := Qml L K a0 a1 a2 a3 a4 h) (by kernel_rfl) hp
def Qpz (L : QL) (K : QK) (a0 : V) (h : Heap) : Prop :=
 (wi F L (.nilck (.c a0)) E0 h fun v3 h =>
 (wi F L (.faddr 0 (.c v3)) E0 h fun v4 h =>
 (wi F L (.store 1 (.c v4) (.c (.bool true))) E0 h fun _ h =>
 (∃ v, Qa h (Qd []) [] = some v ∧ K v h))))
theorem Qyj {L : QL} {K : QK} {a0 : V} {h : Heap} (hp : Qpz L K a0 h) : Cf F L QeZ [a0] h K :=
  wcallp QC1 (of_decide_eq_true (by kernel_rfl)) (p := Qpz L K a0 h) (by kernel_rfl) hp
def Qq1 (L : QL) (K : QK) (a0 : V) (h : Heap) : Prop :=
 (wi F L (.nilck (.c a0)) E0 h fun v3 h =>
 (wi F L (.faddr 1 (.c v3)) E0 h fun v4 h =>
 (wi F L (.store 1 (.c v4) (.c (.bool true))) E0 h fun _ h =>
 (∃ v, Qa h (Qd []) [] = some v ∧ K v h))))
theorem QCs {L : QL} {K : QK} {a0 : V} {h : Heap} (hp : Qq1 L K a0 h) : Cf F L Qfg [a0] h K :=
  wcallp QD1 (of_decide_eq_true (by kernel_rfl)) (p := Qq1 L K a0 h) (by kernel_rfl) hp
def Qo8 (L : QL) (K : QK) (a0 : V) (h : Heap) : Prop :=
 (wi F L (.nilck (.c a0)) E0 h fun v3 h =>
 (wi F L (.faddr 2 (.c v3)) E0 h fun v4 h =>
 (wi F L (.store 1 (.c v4) (.c (.bool true))) E0 h fun _ h =>
 (∃ v, Qa h (Qd []) [] = some v ∧ K v h))))
theorem QAu {L : QL} {K : QK} {a0 : V} {h : Heap} (hp : Qo8 L K a0 h) : Cf F L QeD [a0] h K :=
  wcallp QFL (of_decide_eq_true (by kernel_rfl)) (p := Qo8 L K a0 h) (by kernel_rfl) hp
end Go.Proofs.YtaahialaegfjgaaGreatDoor.Vh
end
