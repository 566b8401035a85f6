/- Part 29 of the proof: Ii, Mb, Mc, Im, Md. -/
import Derived.Test.YtpgceiijoedppaaGreatC25
import Derived.Test.YtpgceiijoedppaaGreatC28
set_option linter.unusedVariables false
set_option linter.unusedSimpArgs false
set_option maxRecDepth 8000
namespace Go.Proofs.YtpgceiijoedppaaGreat
open Go
variable {a b m:Mt}{d k n:Nat}{l:List Pt}{p:Pt}{t:Tm}{y:Bd}
theorem qkC {one:List Bd}(hm:mayT t=true)(hg:Gr t):putT one t=t:=by rw [qe8 (qbN hm),hg.sub (qdd hm)]
theorem qoH {one l:List Bd}(hl:GG l):subB one l=l:=by
 have:∀ b∈l,(⟨b.name,putT one b.t⟩:Bd)=b:=fun b hb=>by rw [qkC (hl.gb.el b hb).2.2 (hl.gr b hb)]
 unfold subB
 conv=>rhs;rw [← List.map_id l]
 exact List.map_congr_left this
theorem both_one {l:List Bd}(hl:GG l){s:ByteArray}(hh:hasB l s=false):qdT l [⟨s,t⟩]=qdM l s t∧qgY l [⟨s,t⟩]=qfT l s t:=by
 have e1:qdY l [⟨s,t⟩]=ins l (posB l s) ⟨s,t⟩:=by simp [qdY,qb3,hh]
 have e2:qft l [⟨s,t⟩]=true:=by simp [qft,qdF,hh]
 have e3:(ins l (posB l s) ⟨s,t⟩).length=l.length+1:=qbw _ _ _ (qgv l s)
 have e4:qlr [⟨s,t⟩] l=true:=List.all_eq_true.2 fun b hb=>by
  have hb2:=(hl.gb.el b hb).2.2
  simp [qgB,qkC hb2 (hl.gr b hb),hb2]
 rw [qdT,qgY,qdM,qfT,e1,e2,e3,e4,qoH hl]
 by_cases h:16≤l.length
 ·have h1:¬ (l.length+1≤16):=by omega
  simp [h,h1]
 ·have h1:l.length+1≤16:=by omega
  simp [h,h1]
def rmPost (q:List Bd×Int)(r:AV):Prop:=(∃ e,r=.tup [.imm (.slice none 0 0),iv e]∧q=([],e))∨r=.tup [.dat true 5 (bdDs q.1),iv q.2]
theorem qrP {f:FuncId}{args:List AV}{q:List Bd×Int}(h:AC Tryz.prog f args [] (fun r O=>rmPost q r∧O=[])):PF f args (.tup [.dat true 5 (bdDs q.1),iv q.2]):=
 qh2 h (fun r O' h=>by
  obtain ⟨⟨e,rfl,rfl⟩|rfl,rfl⟩:=h
  ·exact ⟨_,.tup (.cons (.nil (f:=true) (k:=5)) (.cons .refl .nil)),rfl,rfl⟩
  ·exact ⟨_,.refl,rfl,rfl⟩)
theorem qnF:∀ (d:Nat) (l:List Bd) (a b:Tm),dle d a→a.shp→a.wf→GG l→b.wf→mayT b=true→Gr b→PF 61 [bdA l,tmA false a,tmA false b] (.tup [.dat true 5 (bdDs (fitR d l a b).1),iv (fitR d l a b).2])
 | 0,l,a,b,h,_,_,_,_,_,_=>h.elim
 | d+1,l,a,b,h,hs,ha,hl,hb,hm,hg=>by
   refine qrP ?_
   have hln:=hl.gb.len
   have hbl:=qaR l
   have hla:=qaY a.args
   have hlb:=qaY b.args
   have hal:a.args.length≤4:=by
    rcases ((Tm.shp_iff a).1 hs).1 with ⟨_,_,_,e⟩|⟨_,_,_,e⟩|⟨_,_,_,e⟩<;>simp_all
   have hat:=qsG a.name l
   have hle:∀ x∈l,dle 5 x.t:=fun x hx=>qbN (hl.gb.el x hx).2.2
   have hlw:∀ x∈l,x.wf:=fun x hx=>(hl.gb.el x hx).1
   refine qI Tryz.func61 E Tryz.ntmps61 zL fun c hL hQ hDD=>(qd (qb (qt E E zD (q6 4 E E E) E (qt E E zD (q6 5 E E E) E (zX E (zX E (qc ?_)))))));refine qa (qd (qd (qb (zA E (qe E qaL E) (zA E (qi E qQ E E E E E) (zA E (qj E E E E) (zK (qo E (fun c0=>?_) (fun c0=>?_)))))))))
   ·simp only[↓cqA,cqB]at c0
    refine qd (qb (zX E (zA E (qe E qay E) (zA E (qi E qar E E E E E) ?_))))
    refine qH (avs:=[_,_]) true E E E zD qfE E E (qsU l a.name zO) E E (zX E (zK (qd (qd (qb (zX E ?_))))));refine zA E (qj E E E E) (zK (qo E (fun c1=>?_) (fun c1=>?_)))
    ·simp only[↓cqA,cqB]at c1
     have hh:hasB l a.name=true:=hat.1 (by omega)
     obtain ⟨v,hv,hvn,hlk⟩:∃ x:Bd,l[(atB a.name l).toNat]?=some x∧x.name=a.name∧qeX l a.name=some x.t:=by
      rcases qiY a.name l with ⟨h1,_⟩|⟨_,i,x,h2,h3,h4,h5⟩
      ·rw [h1] at hh;cases hh
      ·exact ⟨x,by rw [h2];exact h3,h4,h5⟩
     have hvt:qe9 l a.name=v.t:=by rw [qe9,hlk];rfl
     have hvm:=hl.gb.el v (List.mem_of_getElem? hv)
     have hvl:=(List.getElem?_eq_some_iff.1 hv).1
     have hcz:=qge 5 v.t b (qbN hvm.2.2)
     refine qd (qd (qX 6 mixed E E E E (zU E (ql (.inl E) E) (zU E (ql (.inl E) E) (zU E (qp E qA E E zO (qbj hv)) (zU E (qJ E qbc E) (zU E (qD E qz E E) ?_)))))))
     refine zU E (qF E qz E E E E) (qaq ⟨rfl,rfl,?_⟩);refine qH (avs:=[_,_]) true E E E zD qbg E E (qeT 5 v.t b (qbN hvm.2.2) hvm.1.2 hb) E E (zK (qo E (fun c2=>?_) (fun c2=>?_)))
     ·refine qd (qb (zX E (qbW E E zD (qbn (avs:=[_]) true E qbO E E (qc0 3 77 (qeU 5 l zO hle hlw)) (fun _=>rfl) E) E (qab (qaG (l:=77) E zD (noL hL _) E E) (zX E (zX E (zK (qn (qm (qm (qm (zI hL (qg E (qg E qh)) ?_ ?_))))))))))))
      ·rfl
      refine ⟨?_,rfl⟩
      rw [fitR]
      first
       | (rw [if_pos c0,if_pos hh,hvt,if_pos (hcz.2 c2)];exact .inr E)
       | (rw [if_pos c0,if_pos hh,hvt,if_neg (fun hx=>by have:=hcz.1 hx;rw [this] at c2;cases c2)];exact .inl ⟨_,rfl,rfl⟩)
       | (rw [if_pos c0,if_neg (by simp [hh]),← hb1,← hb2];exact .inr E)
       | (rw [if_neg c0,if_pos hab]
          rw [htk] at hp ⊢
          refine .inr ?_
          rw [hp.2];rfl)
       | (rw [if_neg c0,if_pos hab]
          have e:fitL d l (a.args.zip b.args)=([],(fitR d (fitL d l ((a.args.zip b.args).take k)).1 q.1 q.2).2):=by
           rw [if_pos c5] at hsn
           have:=qdC d ((a.args.zip b.args).take (k+1)) ((a.args.zip b.args).drop (k+1)) l (by rw [hsn];exact c5)
           rw [List.take_append_drop] at this
           rw [this,hsn]
          rw [e];exact .inl ⟨_,rfl,rfl⟩)
       | (rw [if_neg c0,if_neg (fun hx=>by simp only [qdZ,Bool.and_eq_true,decide_eq_true_eq] at hx;obtain ⟨⟨⟨_,_⟩,_⟩,_⟩:=hx;first|(simp_all;done)|omega)];exact .inl ⟨_,rfl,rfl⟩)
       | trace_state
     refine qr (qa (qd (qb (zX E (zX E (zK ?_))))));refine qn (qm (qm (zI hL (qg E (qg E qh)) ?_ ?_)))
     ·rfl
     refine ⟨?_,rfl⟩
     rw [fitR]
     first
      | (rw [if_pos c0,if_pos hh,hvt,if_pos (hcz.2 c2)];exact .inr E)
      | (rw [if_pos c0,if_pos hh,hvt,if_neg (fun hx=>by have:=hcz.1 hx;rw [this] at c2;cases c2)];exact .inl ⟨_,rfl,rfl⟩)
      | (rw [if_pos c0,if_neg (by simp [hh]),← hb1,← hb2];exact .inr E)
      | (rw [if_neg c0,if_pos hab]
         rw [htk] at hp ⊢
         refine .inr ?_
         rw [hp.2];rfl)
      | (rw [if_neg c0,if_pos hab]
         have e:fitL d l (a.args.zip b.args)=([],(fitR d (fitL d l ((a.args.zip b.args).take k)).1 q.1 q.2).2):=by
          rw [if_pos c5] at hsn
          have:=qdC d ((a.args.zip b.args).take (k+1)) ((a.args.zip b.args).drop (k+1)) l (by rw [hsn];exact c5)
          rw [List.take_append_drop] at this
          rw [this,hsn]
         rw [e];exact .inl ⟨_,rfl,rfl⟩)
      | (rw [if_neg c0,if_neg (fun hx=>by simp only [qdZ,Bool.and_eq_true,decide_eq_true_eq] at hx;obtain ⟨⟨⟨_,_⟩,_⟩,_⟩:=hx;first|(simp_all;done)|omega)];exact .inl ⟨_,rfl,rfl⟩)
      | trace_state
    simp only[↓cqA,cqB]at c1
    have hh:hasB l a.name=false:=by
     cases hc:hasB l a.name with
     | false=>rfl
     | true=>have:=hat.2 hc;omega
    obtain ⟨hb1,hb2⟩:=both_one (t:=b) hl hh
    refine qr (qa (qd (qb (zX E (zA E (qe E qay E) (zA E (qi E qar E E E E E) (zA E (qF E qz E E E E) (zA E (qaF E qa7 E qez E E) (qt E E zD (qaj 35 E qA qa7 E E zD zD zD E E E) E (qcE 35 false 1 E E E E ?_))))))))))
    refine qH (avs:=[_,_]) true E E E zD qdS E E (qmC l [⟨a.name,b⟩] hl.gb.bok (qmG ha.2.1 hb hm)) E E (zA E (qS E E E) (zA E (qS E E E) (zX E (zX E (zK (qn ?_))))));refine qm (zI hL (qg E (qg E qh)) ?_ ?_)
    ·rfl
    refine ⟨?_,rfl⟩
    rw [fitR]
    first
     | (rw [if_pos c0,if_pos hh,hvt,if_pos (hcz.2 c2)];exact .inr E)
     | (rw [if_pos c0,if_pos hh,hvt,if_neg (fun hx=>by have:=hcz.1 hx;rw [this] at c2;cases c2)];exact .inl ⟨_,rfl,rfl⟩)
     | (rw [if_pos c0,if_neg (by simp [hh]),← hb1,← hb2];exact .inr E)
     | (rw [if_neg c0,if_pos hab]
        rw [htk] at hp ⊢
        refine .inr ?_
        rw [hp.2];rfl)
     | (rw [if_neg c0,if_pos hab]
        have e:fitL d l (a.args.zip b.args)=([],(fitR d (fitL d l ((a.args.zip b.args).take k)).1 q.1 q.2).2):=by
         rw [if_pos c5] at hsn
         have:=qdC d ((a.args.zip b.args).take (k+1)) ((a.args.zip b.args).drop (k+1)) l (by rw [hsn];exact c5)
         rw [List.take_append_drop] at this
         rw [this,hsn]
        rw [e];exact .inl ⟨_,rfl,rfl⟩)
     | (rw [if_neg c0,if_neg (fun hx=>by simp only [qdZ,Bool.and_eq_true,decide_eq_true_eq] at hx;obtain ⟨⟨⟨_,_⟩,_⟩,_⟩:=hx;first|(simp_all;done)|omega)];exact .inl ⟨_,rfl,rfl⟩)
     | trace_state
   simp only[↓cqA,cqB]at c0
   refine qr (qa (qd (qd (qb (zA E (qe E qaL E) (zA E (qi E qQ E E E E E) (zA E (qe E qaL E) ?_)))))));refine zA E (qi E qQ E E E E E) (zA E (qj E E E E) (zX E (qE 44 E (fun g44=>?_) (fun g44=>?_))))
   ·simp only[↓cqA,cqB]at g44
    refine zY E (zY E (zY E (zY E (zY E (zA E (qk E E E) (zX E (zY E (zY E (zY E (zY E (zY E (zA E (qk E E E) (zX E (zY E (zY E (zY E (zY E ?_)))))))))))))))))
    refine zY E (zY E (zY E (zA E (qk E E E) (zK (qa2 E (qd ?_))))));refine qb (zX E (zX E (zK (qn (qm (zI hL (qg E (qg E qh)) ?_ ?_))))))
    ·rfl
    refine ⟨?_,rfl⟩
    rw [fitR]
    first
     | (rw [if_pos c0,if_pos hh,hvt,if_pos (hcz.2 c2)];exact .inr E)
     | (rw [if_pos c0,if_pos hh,hvt,if_neg (fun hx=>by have:=hcz.1 hx;rw [this] at c2;cases c2)];exact .inl ⟨_,rfl,rfl⟩)
     | (rw [if_pos c0,if_neg (by simp [hh]),← hb1,← hb2];exact .inr E)
     | (rw [if_neg c0,if_pos hab]
        rw [htk] at hp ⊢
        refine .inr ?_
        rw [hp.2];rfl)
     | (rw [if_neg c0,if_pos hab]
        have e:fitL d l (a.args.zip b.args)=([],(fitR d (fitL d l ((a.args.zip b.args).take k)).1 q.1 q.2).2):=by
         rw [if_pos c5] at hsn
         have:=qdC d ((a.args.zip b.args).take (k+1)) ((a.args.zip b.args).drop (k+1)) l (by rw [hsn];exact c5)
         rw [List.take_append_drop] at this
         rw [this,hsn]
        rw [e];exact .inl ⟨_,rfl,rfl⟩)
     | (rw [if_neg c0,if_neg (fun hx=>by simp only [qdZ,Bool.and_eq_true,decide_eq_true_eq] at hx;obtain ⟨⟨⟨_,_⟩,_⟩,_⟩:=hx;first|(simp_all;done)|omega)];exact .inl ⟨_,rfl,rfl⟩)
     | trace_state
   simp only[↓cqA,cqB]at g44
   refine zZ E (qe E qbb E) (zZ E (qi E qQ E E E E E) (zZ E (qe E qbb E) (zZ E (qi E qQ E E E E E) (zZ E (qj E E E E) (zA E (qk E E E) (zX E (qE 51 E (fun g51=>?_) (fun g51=>?_))))))))
   ·simp only[↓cqA,cqB]at g51
    refine zY E (zY E (zY E (zY E (zY E (zA E (qk E E E) (zX E (zY E (zY E (zY E (zY E (zY E ?_)))))))))))
    refine zY E (zY E (zA E (qk E E E) (zK (qa2 E (qd (qb ?_))))));refine zX E (zX E (zK (qn (qm (zI hL (qg E (qg E qh)) ?_ ?_)))))
    ·rfl
    refine ⟨?_,rfl⟩
    rw [fitR]
    first
     | (rw [if_pos c0,if_pos hh,hvt,if_pos (hcz.2 c2)];exact .inr E)
     | (rw [if_pos c0,if_pos hh,hvt,if_neg (fun hx=>by have:=hcz.1 hx;rw [this] at c2;cases c2)];exact .inl ⟨_,rfl,rfl⟩)
     | (rw [if_pos c0,if_neg (by simp [hh]),← hb1,← hb2];exact .inr E)
     | (rw [if_neg c0,if_pos hab]
        rw [htk] at hp ⊢
        refine .inr ?_
        rw [hp.2];rfl)
     | (rw [if_neg c0,if_pos hab]
        have e:fitL d l (a.args.zip b.args)=([],(fitR d (fitL d l ((a.args.zip b.args).take k)).1 q.1 q.2).2):=by
         rw [if_pos c5] at hsn
         have:=qdC d ((a.args.zip b.args).take (k+1)) ((a.args.zip b.args).drop (k+1)) l (by rw [hsn];exact c5)
         rw [List.take_append_drop] at this
         rw [this,hsn]
        rw [e];exact .inl ⟨_,rfl,rfl⟩)
     | (rw [if_neg c0,if_neg (fun hx=>by simp only [qdZ,Bool.and_eq_true,decide_eq_true_eq] at hx;obtain ⟨⟨⟨_,_⟩,_⟩,_⟩:=hx;first|(simp_all;done)|omega)];exact .inl ⟨_,rfl,rfl⟩)
     | trace_state
   simp only[↓cqA,cqB]at g51
   refine zZ E (qe E qay E) (zZ E (qi E qar E E E E E) (zZ E (qe E qay E) (zZ E (qi E qar E E E E E) (zZ E (qcH E E E E) (zA E (qk E E E) (zX E (qE 58 E (fun g58=>?_) (fun g58=>?_))))))))
   ·simp only[↓cqA,cqB]at g58
    refine zY E (zY E (zY E (zY E (zY E (zY E ?_)))))
    refine zY E (zA E (qk E E E) (zK (qa2 E (qd (qb (zX E ?_))))));refine zX E (zK (qn (qm (zI hL (qg E (qg E qh)) ?_ ?_))))
    ·rfl
    refine ⟨?_,rfl⟩
    rw [fitR]
    first
     | (rw [if_pos c0,if_pos hh,hvt,if_pos (hcz.2 c2)];exact .inr E)
     | (rw [if_pos c0,if_pos hh,hvt,if_neg (fun hx=>by have:=hcz.1 hx;rw [this] at c2;cases c2)];exact .inl ⟨_,rfl,rfl⟩)
     | (rw [if_pos c0,if_neg (by simp [hh]),← hb1,← hb2];exact .inr E)
     | (rw [if_neg c0,if_pos hab]
        rw [htk] at hp ⊢
        refine .inr ?_
        rw [hp.2];rfl)
     | (rw [if_neg c0,if_pos hab]
        have e:fitL d l (a.args.zip b.args)=([],(fitR d (fitL d l ((a.args.zip b.args).take k)).1 q.1 q.2).2):=by
         rw [if_pos c5] at hsn
         have:=qdC d ((a.args.zip b.args).take (k+1)) ((a.args.zip b.args).drop (k+1)) l (by rw [hsn];exact c5)
         rw [List.take_append_drop] at this
         rw [this,hsn]
        rw [e];exact .inl ⟨_,rfl,rfl⟩)
     | (rw [if_neg c0,if_neg (fun hx=>by simp only [qdZ,Bool.and_eq_true,decide_eq_true_eq] at hx;obtain ⟨⟨⟨_,_⟩,_⟩,_⟩:=hx;first|(simp_all;done)|omega)];exact .inl ⟨_,rfl,rfl⟩)
     | trace_state
   simp only[↓cqA,cqB]at g58
   refine zZ E (qe E qaa E) (zZ E (qi E q9 E E E E E) (zZ E (qu E qN E) (zZ E (qe E qaa E) (zZ E (qi E q9 E E E E E) (zZ E (qu E qN E) (zZ E (qj E E E E) (zA E (qk E E E) (zK (qo E (fun c3=>?_) (fun c3=>?_))))))))))
   ·simp only[↓cqA,cqB]at c3
    refine qd (qb (zX E (zX E (zK (qn (qm (zI hL (qg E (qg E qh)) ?_ ?_)))))))
    ·rfl
    refine ⟨?_,rfl⟩
    rw [fitR]
    first
     | (rw [if_pos c0,if_pos hh,hvt,if_pos (hcz.2 c2)];exact .inr E)
     | (rw [if_pos c0,if_pos hh,hvt,if_neg (fun hx=>by have:=hcz.1 hx;rw [this] at c2;cases c2)];exact .inl ⟨_,rfl,rfl⟩)
     | (rw [if_pos c0,if_neg (by simp [hh]),← hb1,← hb2];exact .inr E)
     | (rw [if_neg c0,if_pos hab]
        rw [htk] at hp ⊢
        refine .inr ?_
        rw [hp.2];rfl)
     | (rw [if_neg c0,if_pos hab]
        have e:fitL d l (a.args.zip b.args)=([],(fitR d (fitL d l ((a.args.zip b.args).take k)).1 q.1 q.2).2):=by
         rw [if_pos c5] at hsn
         have:=qdC d ((a.args.zip b.args).take (k+1)) ((a.args.zip b.args).drop (k+1)) l (by rw [hsn];exact c5)
         rw [List.take_append_drop] at this
         rw [this,hsn]
        rw [e];exact .inl ⟨_,rfl,rfl⟩)
     | (rw [if_neg c0,if_neg (fun hx=>by simp only [qdZ,Bool.and_eq_true,decide_eq_true_eq] at hx;obtain ⟨⟨⟨_,_⟩,_⟩,_⟩:=hx;first|(simp_all;done)|omega)];exact .inl ⟨_,rfl,rfl⟩)
     | trace_state
   simp only[↓cqA,cqB]at c3
   have hab:qdZ a b=true:=by
    simp only [qdZ,Bool.and_eq_true,decide_eq_true_eq]
    refine ⟨⟨⟨?_,?_⟩,?_⟩,?_⟩<;>first|assumption|omega
   have hzl:(a.args.zip b.args).length=a.args.length:=by
    have:a.args.length=b.args.length:=by omega
    rw [List.length_zip];omega
   have hzp:∀ p∈a.args.zip b.args,p.1.shp∧p.1.wf∧mayT p.2=true∧p.2.wf∧Gr p.2:=fun p hp=>by
    have:=List.of_mem_zip hp
    exact ⟨hs.arg this.1,Tm.wfs_mem ha.2.2.2.2 this.1,qkO hm this.2,Tm.wfs_mem hb.2.2.2.2 this.2,hg.arg this.2⟩
   refine qr (qa (qd (qd (qb (zX E (zK ?_))))));refine qv (qac (a.args.length) (fun k=>k≤a.args.length∧(fitL d l ((a.args.zip b.args).take k)).2=0) (fun k=>⟨[(0,bdA (fitL d l ((a.args.zip b.args).take k)).1),(4,.ptr 4 0),(5,.ptr 5 0),(9,iv (k:Int))],[(4,.box (lift false (tmD a))),(5,.box (lift false (tmD b)))]⟩) (⟨by omega,by rw [List.take_zero,fitL]⟩) ?_ (fun k hk hp=>?_))
   ·exact zR hL (SubT.cons (qaw E (by rw [List.take_zero,fitL])) (zC rfl (zC rfl (zC rfl SubT.nil)))) (SubO.cons (qU rfl (by rfl)) (SubO.cons (qU E (by rfl)) SubO.nil))
   have hgg:GG (fitL d l ((a.args.zip b.args).take k)).1:=(qkY d _ l hl (fun p hp=>hzp p (List.mem_of_mem_take hp)) hp.2).1.gg
   refine qd (qd (qb (zX E (zA E (qe E qaa E) (zA E (qi E q9 E E E E E) (zA E (qu E qN E) (zA E (qj E E E E) ?_)))))));refine zK (qo E (fun c4=>?_) (fun c4=>?_))
   ·simp only[↓cqA,cqB]at c4
    obtain ⟨q,hq⟩:=qM (l:=a.args.zip b.args) (k:=k) (by omega)
    have hqm:=hzp q (List.mem_of_getElem? hq)
    have hqz:=List.of_mem_zip (List.mem_of_getElem? hq)
    have hqg:=List.getElem?_zip_eq_some.1 hq
    have hsn:=qkZ d q ((a.args.zip b.args).take k) l hp.2
    rw [← qas hq] at hsn
    refine qr (qa (qd (qv (qd (qX 16 mixed E E E E (zU E (ql (.inl E) E) (zU E (qe E qaa E) ?_)))))));refine zU E (qi E q9 E E E E E) (zU E (ql (.inl E) E) (zU E (qp E qN E E zO (qbP hqg.1)) (zU E (qD E qz E E) (zU E (qe E qaa E) (zU E (qi E q9 E E E E E) (zU E (ql (.inl E) E) (zU E (qp E qN E E zO (qbP hqg.2)) (zU E (qD E qz E E) ?_))))))))
    refine zU E (qai (avs:=[_,_,_]) true E qeQ E E (qnF d (fitL d l ((a.args.zip b.args).take k)).1 q.1 q.2 (h q.1 hqz.1) hqm.1 hqm.2.1 hgg hqm.2.2.2.1 hqm.2.2.1 hqm.2.2.2.2) (fun _=>rfl) E) (zU E (ql (.inl E) E) ?_)
    refine zU E (qS E E E) (zU E (qS E E E) (zU E (ql (.inr E) E) (qaq ⟨rfl,rfl,?_⟩)));refine zX E (zK (qd (qd (qb (zX E (zA E (qj E E E E) (zK (qo E (fun c5=>?_) (fun c5=>?_)))))))))
    ·simp only[↓cqA,cqB]at c5
     refine qd (qb (zX E (zX E (zX E (zK (qn ?_))))));refine qm (qP (qm (qm (qP (qm (zI hL (qg E (qg E qh)) ?_ ?_))))))
     ·rfl
     refine ⟨?_,rfl⟩
     rw [fitR]
     first
      | (rw [if_pos c0,if_pos hh,hvt,if_pos (hcz.2 c2)];exact .inr E)
      | (rw [if_pos c0,if_pos hh,hvt,if_neg (fun hx=>by have:=hcz.1 hx;rw [this] at c2;cases c2)];exact .inl ⟨_,rfl,rfl⟩)
      | (rw [if_pos c0,if_neg (by simp [hh]),← hb1,← hb2];exact .inr E)
      | (rw [if_neg c0,if_pos hab]
         rw [htk] at hp ⊢
         refine .inr ?_
         rw [hp.2];rfl)
      | (rw [if_neg c0,if_pos hab]
         have e:fitL d l (a.args.zip b.args)=([],(fitR d (fitL d l ((a.args.zip b.args).take k)).1 q.1 q.2).2):=by
          rw [if_pos c5] at hsn
          have:=qdC d ((a.args.zip b.args).take (k+1)) ((a.args.zip b.args).drop (k+1)) l (by rw [hsn];exact c5)
          rw [List.take_append_drop] at this
          rw [this,hsn]
         rw [e];exact .inl ⟨_,rfl,rfl⟩)
      | (rw [if_neg c0,if_neg (fun hx=>by simp only [qdZ,Bool.and_eq_true,decide_eq_true_eq] at hx;obtain ⟨⟨⟨_,_⟩,_⟩,_⟩:=hx;first|(simp_all;done)|omega)];exact .inl ⟨_,rfl,rfl⟩)
      | trace_state
    simp only[↓cqA,cqB]at c5
    rw [if_neg (by simp [c5])] at hsn
    refine qr (qa (qbI (qdi hQ) (qb (zX E (zX E (qc (qR ?_)))))));refine qa (qb (zX E (zA E (qO E E E zO) (zX E (zK ?_)))));refine ⟨?_,?_,?_⟩
    ·omega
    ·exact ⟨by omega,by rw [hsn]⟩
    exact zR hL (SubT.cons (qaw E (by rw [hsn];rfl)) (zC E (zC E (zC E SubT.nil)))) (SubO.cons (qU E (by rfl)) (SubO.cons (qU E (by rfl)) SubO.nil))
   simp only[↓cqA,cqB]at c4
   refine qV (qq (qq (qad ?_)));refine qa (qd ?_)
   have hgb:=hgg.gb
   have htk:(a.args.zip b.args).take k=a.args.zip b.args:=List.take_of_length_le (by omega)
   refine qb ?_;refine zX E ?_;refine qbW E E zD (qbn (avs:=[_]) true E qbO E E (qc0 3 77 (qeU 5 _ (by have:=hgb.len;omega) (fun x hx=>qbN (hgb.el x hx).2.2) (fun x hx=>(hgb.el x hx).1))) (fun _=>rfl) E) E ?_
   refine qab (qaG (l:=77) E zD (noL hL _) E E) (zX E (zX E (zK (qn (zI hL (qg E (qg E qh)) ?_ ?_)))))
   ·rfl
   refine ⟨?_,rfl⟩
   rw [fitR]
   first
    | (rw [if_pos c0,if_pos hh,hvt,if_pos (hcz.2 c2)];exact .inr E)
    | (rw [if_pos c0,if_pos hh,hvt,if_neg (fun hx=>by have:=hcz.1 hx;rw [this] at c2;cases c2)];exact .inl ⟨_,rfl,rfl⟩)
    | (rw [if_pos c0,if_neg (by simp [hh]),← hb1,← hb2];exact .inr E)
    | (rw [if_neg c0,if_pos hab]
       rw [htk] at hp ⊢
       refine .inr ?_
       rw [hp.2];rfl)
    | (rw [if_neg c0,if_pos hab]
       have e:fitL d l (a.args.zip b.args)=([],(fitR d (fitL d l ((a.args.zip b.args).take k)).1 q.1 q.2).2):=by
        rw [if_pos c5] at hsn
        have:=qdC d ((a.args.zip b.args).take (k+1)) ((a.args.zip b.args).drop (k+1)) l (by rw [hsn];exact c5)
        rw [List.take_append_drop] at this
        rw [this,hsn]
       rw [e];exact .inl ⟨_,rfl,rfl⟩)
    | (rw [if_neg c0,if_neg (fun hx=>by simp only [qdZ,Bool.and_eq_true,decide_eq_true_eq] at hx;obtain ⟨⟨⟨_,_⟩,_⟩,_⟩:=hx;first|(simp_all;done)|omega)];exact .inl ⟨_,rfl,rfl⟩)
    | trace_state
theorem qrY {α:Type}:∀ fs:List (α→α→Int),(∀ f∈fs,TP f)→TP fun a b=>orL (fs.map fun f=>f a b)
 | [],_=>TP.zero
 | f::fs,h=>(h f (by simp)).lex (qrY fs fun g hg=>h g (by simp [hg]))
theorem qiB:∀ {l:List Int},orL l=0→∀ x∈l,x=0
 | [],_,x,hx=>by cases hx
 | a::l,h,x,hx=>by
   rw [orL] at h
   split at h
   ·rename_i h0
    rcases List.mem_cons.1 hx with rfl|hx
    ·exact h0
    ·exact qiB h x hx
   ·exact absurd h (by assumption)
def qlq (x y:Bd):Int:=orL [cmpS x.name y.name,cmpT 5 x.t y.t]
def qef (x y:Bd):Int:=orL [cmpS x.name y.name,ordT 5 x.t y.t]
def cmpM (a b:Mt):Int:=orL [cmpG cmpI a.u b.u,cmpI a.fr b.fr,cmpI a.to b.to,cmpG qlq a.b b.b]
def ordM (a b:Mt):Int:=orL [cmpG cmpI a.u b.u,cmpI a.fr b.fr,cmpI a.to b.to,cmpG qef a.b b.b]
theorem TP.one:TP qlq:=qrY [fun x y:Bd=>cmpS x.name y.name,fun x y:Bd=>cmpT 5 x.t y.t] (by
 simp only [List.mem_cons,List.not_mem_nil,or_false]
 rintro f (rfl|rfl)
 ·exact TP.str.map Bd.name
 ·exact (TP.tm 5).map Bd.t)
theorem TP.mt:TP cmpM:=qrY [fun a b:Mt=>cmpG cmpI a.u b.u,fun a b:Mt=>cmpI a.fr b.fr,fun a b:Mt=>cmpI a.to b.to,fun a b:Mt=>cmpG qlq a.b b.b] (by
 simp only [List.mem_cons,List.not_mem_nil,or_false]
 rintro f (rfl|rfl|rfl|rfl)
 ·exact TP.int.listG.map Mt.u
 ·exact TP.int.map Mt.fr
 ·exact TP.int.map Mt.to
 ·exact TP.one.listG.map Mt.b)
def MayM (m:Mt):Prop:=∀ b∈m.b,mayT b.t=true
theorem one_ord {x:Bd}(hx:mayT x.t=true)(hy:mayT y.t=true):qlq x y=qef x y:=by
 rw [qlq,qef,qsv 5 _ _ (qbN hx) (qdd hx) (qdd hy)]
theorem ordM_cmp (ha:MayM a)(hb:MayM b):ordM a b=cmpM a b:=by
 rw [ordM,cmpM,ql8 fun x hx y hy=>(one_ord (ha x hx) (hb y hy)).symm]
theorem qqX {x:Bd}(hx:mayT x.t=true)(h:qlq x y=0):x=y:=by
 have h1:=qiB h _ (show cmpS x.name y.name∈[cmpS x.name y.name,cmpT 5 x.t y.t] by simp)
 have h2:=qiB h _ (show cmpT 5 x.t y.t∈[cmpS x.name y.name,cmpT 5 x.t y.t] by simp)
 cases x;cases y
 simp only [Bd.mk.injEq]
 exact ⟨(qgf _ _).1 h1,(cmpT_eq (qbN hx)).1 h2⟩
theorem qk6 (ha:MayM a)(hb:MayM b)(h:cmpM a b=0):a=b:=by
 have hz:=qiB h
 have h1:=hz (cmpG cmpI a.u b.u) (by simp)
 have h2:=hz (cmpI a.fr b.fr) (by simp)
 have h3:=hz (cmpI a.to b.to) (by simp)
 have h4:=hz (cmpG qlq a.b b.b) (by simp)
 cases a;cases b
 simp only [Mt.mk.injEq]
 exact ⟨qk7 (fun x hx y hy h=>qqX (ha x hx) h) h4,(qc8 _ _).1 h2,(qc8 _ _).1 h3,qk7 (fun x _ y _ h=>(qc8 _ _).1 h) h1⟩
theorem ins_mem {x:List Bd}{b:Bd}(h:b∈ins x k y):b∈x∨b=y:=by
 unfold ins at h
 rcases List.mem_append.1 h with h|h
 ·exact .inl (List.mem_of_mem_take h)
 ·rcases List.mem_cons.1 h with h|h
  ·exact .inr h
  ·exact .inl (List.mem_of_mem_drop h)
theorem qop:∀ (l a:List Bd) (b:Bd),b∈qdY a l→b∈a∨b∈l
 | [],a,b,h=>.inl h
 | y::l,a,b,h=>by
   rcases qop l (qb3 a y) b h with h|h
   ·rw [qb3] at h
    split at h
    ·exact .inl h
    ·rcases ins_mem h with h|rfl
     ·exact .inl h
     ·exact .inr (by simp)
   ·exact .inr (by simp [h])
theorem qm8 {a b:List Bd}(ha:GG a)(hb:GG b):GG (qdT a b):=by
 have hbok:=bothL_ok ha.gb.bok hb.gb.bok
 rw [qdT] at hbok ⊢
 split
 ·rename_i h
  rw [if_pos h] at hbok
  have hm:∀ x∈qdY a b,(x.wf∧varB x.name=true∧mayT x.t=true)∧Gr x.t:=fun x hx=>by
   rcases qop b a x hx with h|h
   ·exact ⟨ha.gb.el x h,ha.gr x h⟩
   ·exact ⟨hb.gb.el x h,hb.gr x h⟩
  exact ⟨⟨h.2,hbok.ris,fun x hx=>(hm x hx).1,fun x hx y hy=>absurd hy ((hm x hx).2 y)⟩,fun x hx=>(hm x hx).2⟩
 ·exact qqI
def isR1 (r:Int)(a b:Int×Int):Bool:=
 if r=1 then decide (a.2<b.1) else if r=2 then decide (a.2=b.1) else if r=3 then decide (a.1<b.1)&&decide (b.1<a.2)&&decide (a.2<b.2)
 else if r=4 then decide (a.1=b.1)&&decide (a.2<b.2) else if r=5 then decide (b.1<a.1)&&decide (a.2<b.2) else if r=6 then decide (a.2=b.2)&&decide (b.1<a.1) else decide (a.1=b.1∧a.2=b.2)
def isR (r:Int)(a b:Int×Int):Bool:=if r≤7 then isR1 r a b else isR1 (14-r) b a
def qfI (kind rel:Int)(a b:Mt):Bool:=if kind=2∨kind=5 then decide (a.to<b.fr) else if kind=6 then isR rel (a.fr,a.to) (b.fr,b.to) else true
def barB (l:List Bd)(a b:Mt)(x:Mt):Bool:=decide (a.to<x.fr)&&decide (x.to<b.fr)&&decide (qgY l x.b=0)
def qb0 (kind rel:Int)(c:List Mt)(a b:Mt):Option Mt:=
 if qfI kind rel a b=true then
  if qgY a.b b.b=0 then
   if c.any (barB (qdT a.b b.b) a b)=true then none else some ⟨qdT a.b b.b,min a.fr b.fr,max a.to b.to,a.u++b.u⟩
  else none
 else none
def qhK (l:List Kp):Prop:=l.length≤300∧∀ k∈l,qer k.f=true
def qcj (t:Tm)(k:Kp):Option Mt:=if (fitR 5 [] t k.f.t).2=0 then some ⟨(fitR 5 [] t k.f.t).1,k.f.fr,k.f.to,[k.seq]⟩ else none
def zP:Pt:=⟨0,⟨0,⟨#[]⟩,0,[]⟩,0,[],[],[]⟩
def hdP (l:List Pt):Pt:=l.headD zP
def capM (x:List Mt):List Mt×Bool:=if x.length≤1000 then (x,true) else ([],false)
theorem qqw (x:List Mt):(capM x).1.length≤1000:=by
 rw [capM];split
 ·assumption
 ·simp
theorem capM_in {x:List Mt}(h:m∈(capM x).1):m∈x:=by
 rw [capM] at h;split at h
 ·exact h
 ·cases h
def mAll:Nat→List Kp→Pt→List Mt×Bool
 | 0,_,_=>([],false)
 | d+1,l,p=>
   if p.kind=1 then (qbK ordM [] (l.filterMap (qcj p.t)),decide ((qbK ordM [] (l.filterMap (qcj p.t))).length≤1000))
   else if (mAll d l (hdP p.l)).2&&(mAll d l (hdP p.r)).2&&(p.kind != 5 || (mAll d l (hdP p.c)).2) then
    if p.kind=4 then (qbK ordM (mAll d l (hdP p.l)).1 (mAll d l (hdP p.r)).1,decide ((qbK ordM (mAll d l (hdP p.l)).1 (mAll d l (hdP p.r)).1).length≤1000))
    else
     capM (qbK ordM [] ((mAll d l (hdP p.l)).1.flatMap fun a=>(mAll d l (hdP p.r)).1.filterMap (qb0 p.kind p.rel (if p.kind=5 then (mAll d l (hdP p.c)).1 else []) a)))
   else ([],false)
structure MOk (n:Nat)(m:Mt):Prop where
 gg:GG m.b
 lo:-1073741824≤m.fr
 mid:m.fr≤m.to
 hi:m.to≤1073741824
 ul:m.u.length≤n
 ui:∀ x∈m.u,i64 x
theorem MOk.may (h:MOk n m):MayM m:=fun b hb=>(h.gg.gb.el b hb).2.2
theorem MOk.mono (h:MOk n m)(hk:n≤k):MOk k m:={ h with ul:=Nat.le_trans h.ul hk }
theorem putG_in {f:Mt→Mt→Int}{l:List Mt}{t x:Mt}(h:x∈putG f l t):x∈l∨x=t:=by
 rw [putG] at h
 split at h
 ·exact .inl h
 ·rcases List.mem_append.1 h with h|h
  ·exact .inl (List.mem_of_mem_take h)
  ·rcases List.mem_cons.1 h with h|h
   ·exact .inr h
   ·exact .inl (List.mem_of_mem_drop h)
theorem qgu {f:Mt→Mt→Int}:∀ (m l:List Mt) (x:Mt),x∈qbK f l m→x∈l∨x∈m
 | [],l,x,h=>.inl h
 | t::m,l,x,h=>by
   rcases qgu m (putG f l t) x h with h|h
   ·rcases putG_in h with h|rfl
    ·exact .inl h
    ·exact .inr (by simp)
   ·exact .inr (by simp [h])
theorem qj1 (ht:mayT t=true)(hw:t.wf){k:Kp}(hk:qer k.f=true)(hkw:k.wf)(h:qcj t k=some m):MOk 1 m:=by
 rw [qcj] at h
 split at h
 ·rename_i h0
  cases h
  simp only [qer,qlp,Bool.and_eq_true,decide_eq_true_eq] at hk
  obtain ⟨⟨⟨_,h1⟩,h2⟩,h3⟩:=hk
  exact ⟨(qqo 5 [] t k.f.t qqI (qdd ht) hw h1 hkw.2.1 ((qkV (qbN h1)).1 h2) h0).1.gg,h3.1,h3.2.1,h3.2.2,by simp,fun x hx=>by rw [List.mem_singleton.1 hx];exact hkw.1⟩
 ·cases h
theorem qkb {kind rel:Int}{c:List Mt}(ha:MOk n a)(hb:MOk k b)(h:qb0 kind rel c a b=some m):MOk (n+k) m:=by
 rw [qb0] at h
 split at h
 ·split at h
  ·split at h
   ·cases h
   ·cases h
    have h1:=ha.lo;have h2:=hb.lo;have h3:=ha.mid;have h4:=hb.mid;have h5:=ha.hi;have h6:=hb.hi
    refine ⟨qm8 ha.gg hb.gg,?_,?_,?_,?_,fun x hx=>?_⟩
    ·simp only;omega
    ·simp only;omega
    ·simp only;omega
    ·have:=ha.ul;have:=hb.ul;simp only [List.length_append];omega
    ·rcases List.mem_append.1 hx with hx|hx
     ·exact ha.ui x hx
     ·exact hb.ui x hx
  ·cases h
 ·cases h
def zT:Tm:=⟨0,⟨#[]⟩,0,[]⟩
def patB:Nat→Pt→Bool
 | 0,_=>false
 | d+1,p=>
   if p.l.length≤1∧p.r.length≤1∧p.c.length≤1 then
    if p.kind=1 then decide (p.t.kind=3)&&mayT p.t&&decide (p.rel=0)&&decide (p.l.length=0)&&decide (p.r.length=0)&&decide (p.c.length=0)
    else decide (2≤p.kind∧p.kind≤6)&&eqT 5 p.t zT&&decide (p.l.length≠0)&&decide (p.r.length≠0)&&decide (p.kind=5↔p.c.length=1)&&decide (p.kind=6↔1≤p.rel∧p.rel≤13)&&decide (p.kind≠6→p.rel=0)
     && patB d (hdP p.l)&&patB d (hdP p.r)&&(decide (p.c.length=0) || patB d (hdP p.c))
   else false
theorem qdO (h:l.length≠0):l[0]?=some (hdP l):=by
 cases l with
 | nil=>exact absurd E h
 | cons a l=>rfl
theorem zP_wf:zP.wf:=⟨by decide,⟨by decide,by decide,by decide,by decide,trivial⟩,by decide,⟨by simp [qbt,zP],trivial⟩,⟨by simp [qbt,zP],trivial⟩,by simp [qbt,zP],trivial⟩
theorem qds (h:Pt.wfs l):(hdP l).wf:=by
 cases l with
 | nil=>exact zP_wf
 | cons a l=>exact (Pt.wf0_iff a).1 h.1
theorem qiz (h:patB (d+1) p=true)(hk:p.kind=1):mayT p.t=true∧p.t.kind=3:=by
 rw [patB] at h
 split at h
 ·simp only [hk,if_true,Bool.and_eq_true,decide_eq_true_eq] at h
  exact ⟨h.1.1.1.1.2,h.1.1.1.1.1⟩
 ·cases h
theorem qdV (h:patB (d+1) p=true)(hk:p.kind≠1):(2≤p.kind∧p.kind≤6)∧p.l.length=1∧p.r.length=1∧(p.kind=5↔p.c.length=1)∧(p.kind=6→1≤p.rel∧p.rel≤13)∧patB d (hdP p.l)=true∧patB d (hdP p.r)=true∧(p.kind=5→patB d (hdP p.c)=true)∧p.c.length≤1:=by
 rw [patB] at h
 split at h
 ·rename_i hl
  simp only [hk,if_false,Bool.and_eq_true,Bool.or_eq_true,decide_eq_true_eq] at h
  obtain ⟨⟨⟨⟨⟨⟨⟨⟨⟨h1,h2⟩,h3⟩,h4⟩,h5⟩,h6⟩,h7⟩,h8⟩,h9⟩,h10⟩:=h
  refine ⟨h1,by omega,by omega,h5,h6.1,h8,h9,fun hk5=>?_,hl.2.2⟩
  have:=h5.1 hk5
  rcases h10 with h10|h10
  ·omega
  ·exact h10
 ·cases h
theorem qfl {l:List Kp}(hl:qhK l)(hw:∀ k∈l,k.wf):∀ (d:Nat) (p:Pt),p.wf→patB d p=true→(mAll d l p).1.length≤1000∨(mAll d l p).2=false
 | 0,p,_,h=>by rw [patB] at h;cases h
 | d+1,p,hp,h=>by
   rw [mAll]
   split
   ·simp only []
    by_cases h:(qbK ordM [] (l.filterMap (qcj p.t))).length≤1000
    ·exact .inl h
    ·exact .inr (decide_eq_false h)
   ·split
    ·by_cases h4:p.kind=4
     ·rw [if_pos h4]
      by_cases h:(qbK ordM (mAll d l (hdP p.l)).1 (mAll d l (hdP p.r)).1).length≤1000
      ·exact .inl h
      ·exact .inr (decide_eq_false h)
     ·rw [if_neg h4];exact .inl (qqw _)
    ·exact .inr E
theorem qcs {l:List Kp}(hl:qhK l)(hw:∀ k∈l,k.wf):∀ (d:Nat) (p:Pt),p.wf→patB d p=true→∀ m∈(mAll d l p).1,MOk (2 ^ d) m
 | 0,p,_,h=>by rw [patB] at h;cases h
 | d+1,p,hp,h=>by
   have hf:=hl.2
   intro m hm
   rw [mAll] at hm
   split at hm
   ·rename_i hk
    obtain ⟨h1,_⟩:=qiz h hk
    rcases qgu _ _ m hm with h2|h2
    ·cases h2
    ·obtain ⟨k,hk1,hk2⟩:=List.mem_filterMap.1 h2
     exact (qj1 h1 hp.2.1 (hf k hk1) (hw k hk1) hk2).mono (Nat.one_le_two_pow)
   ·rename_i hk
    obtain ⟨_,_,_,_,_,h1,h2,_⟩:=qdV h hk
    have hA:=qcs hl hw d (hdP p.l) (qds hp.2.2.2.1.2) h1
    have hB:=qcs hl hw d (hdP p.r) (qds hp.2.2.2.2.1.2) h2
    have h2d:2 ^ (d+1)=2 ^ d+2 ^ d:=by rw [Nat.pow_succ];omega
    have hp1:1≤2 ^ d:=Nat.one_le_two_pow
    split at hm
    ·by_cases h4:p.kind=4
     ·rw [if_pos h4] at hm
      rcases qgu _ _ m hm with h3|h3
      ·exact (hA m h3).mono (by omega)
      ·exact (hB m h3).mono (by omega)
     ·rw [if_neg h4] at hm
      rcases qgu _ _ m (capM_in hm) with h3|h3
      ·cases h3
      ·obtain ⟨a,ha,h3⟩:=List.mem_flatMap.1 h3
       obtain ⟨b,hb,h3⟩:=List.mem_filterMap.1 h3
       rw [h2d]
       exact qkb (hA a ha) (hB b hb) h3
    ·cases hm
theorem qp4 (t:Tm):qb2 t=true↔t=qfQ:=by
 simp only [qb2,qfQ,Bool.and_eq_true,decide_eq_true_eq]
 constructor
 ·rintro ⟨⟨⟨h1,h2⟩,h3⟩,h4⟩
  cases t;simp only at h1 h2 h3 h4;rw [h1,h2,h3,List.eq_nil_of_length_eq_zero h4]
 ·rintro rfl;simp
theorem qr5 (t:Tm):qb2 t=true↔t=zT:=qp4 t
theorem qdk (t:Tm):eqT 5 t zT=qb2 t:=by
 rw [Bool.eq_iff_iff,qr5]
 obtain ⟨k,nm,n,l⟩:=t
 constructor
 ·intro h
  rw [eqT] at h
  simp only [Bool.and_eq_true] at h
  obtain ⟨⟨⟨h1,h2⟩,h3⟩,h4⟩:=h
  have e1:k=0:=of_decide_eq_true h1
  have e3:n=0:=of_decide_eq_true h3
  have hl:l=[]:=by cases l with
   | nil=>rfl
   | cons a l=>cases h4
  obtain ⟨⟨d⟩⟩:=nm
  have e2:d=[]:=of_decide_eq_true h2
  subst e1;subst e2;subst e3;subst hl;rfl
 ·intro h
  rw [h]
  exact (qgD 5 zT zT (by simp [zT,dle])).2 rfl
def qbV (p:Pt):Bool:=
 if p.kind=1 then decide (p.l.length+p.r.length+p.c.length=0)&&decide (p.rel=0)&&decide (p.t.kind=3)&&mayT p.t
 else if 2≤p.kind∧p.kind≤6 then decide (p.l.length=1)&&decide (p.r.length=1)&&decide (p.c.length=if p.kind=5 then 1 else 0)&&(if p.kind=6 then decide (1≤p.rel∧p.rel≤13) else decide (p.rel=0))&&qb2 p.t
 else false
theorem qoW (d:Nat)(p:Pt):patB (d+1) p=(qbV p&&(decide (p.kind=1) || (patB d (hdP p.l)&&patB d (hdP p.r)&&(decide (p.c.length=0) || patB d (hdP p.c))))):=by
 rw [patB,qbV,qdk]
 generalize qb2 p.t=b1
 generalize patB d (hdP p.l)=b2
 generalize patB d (hdP p.r)=b3
 generalize patB d (hdP p.c)=b4
 generalize mayT p.t=b5
 generalize p.t.kind=tk
 generalize p.l.length=L
 generalize p.r.length=R
 generalize p.c.length=C
 generalize p.rel=q
 generalize p.kind=k
 by_cases h1:k=1
 ·simp only [h1,if_true,decide_true,Bool.true_or,Bool.and_true]
  rw [Bool.eq_iff_iff]
  cases b5
  ·simp
  ·split<;>simp<;>omega
 ·simp only [h1,if_false,decide_false,Bool.false_or]
  by_cases h2:2≤k∧k≤6
  ·rw [if_pos h2]
   cases b1<;>cases b2<;>cases b3<;>(try (simp;done))
   rw [Bool.eq_iff_iff]
   by_cases h5:k=5
   ·subst h5
    cases b4<;>split<;>simp<;>omega
   ·by_cases h6:k=6
    ·subst h6
     cases b4<;>split<;>simp<;>omega
    ·simp only [h5,h6,if_false]
     cases b4<;>split<;>simp<;>omega
  ·rw [if_neg h2]
   split<;>simp [h2]
def sumP (f:Pt→Int)(l:List Pt):Int:=(l.map f).sum
def qcC:Nat→Pt→Int
 | 0,_=>0
 | d+1,p=>if p.kind=1 then 1 else sumP (qcC d) (p.l++p.r++p.c)
def qeO (f:Pt→Int→Bool×Int):List Pt→Int→Bool×Int
 | [],n=>(true,n)
 | a::l,n=>if (f a n).1=true then qeO f l (f a n).2 else (false,(f a n).2)
def qc2:Nat→Pt→Int→Bool×Int
 | 0,_,n=>(false,n)
 | d+1,p,n=>if qbV p=true then (if p.kind=1 then (decide (0≤n-1),n-1) else qeO (qc2 d) (p.l++p.r++p.c) n) else (false,n)
theorem qkJ:∀ (d:Nat) (p:Pt),0≤qcC d p
 | 0,_=>Int.le_refl _
 | d+1,p=>by
   have key:∀ l:List Pt,0≤sumP (qcC d) l:=by
    intro l
    induction l with
    | nil=>simp [sumP]
    | cons a l ih=>
      have:=qkJ d a
      simp only [sumP,List.map_cons,List.sum_cons] at ih ⊢
      omega
   rw [qcC];split
   ·decide
   ·exact key _
theorem qkQ {f:Pt→Int→Bool×Int}{v:Pt→Bool}{g:Pt→Int}(h:∀ p n,0≤n→((f p n).1=true↔v p=true∧g p≤n)∧((f p n).1=true→(f p n).2=n-g p))(hg:∀ p,0≤g p):∀ (l:List Pt) (n:Int),0≤n→((qeO f l n).1=true↔l.all v=true∧sumP g l≤n)∧((qeO f l n).1=true→(qeO f l n).2=n-sumP g l)
 | [],n,hn=>by simp [qeO,sumP,hn]
 | a::l,n,hn=>by
   obtain ⟨h1,h2⟩:=h a n hn
   have hs:sumP g (a::l)=g a+sumP g l:=by simp [sumP]
   have hsl:∀ l:List Pt,0≤sumP g l:=by
    intro l
    induction l with
    | nil=>simp [sumP]
    | cons a l ih=>have:=hg a;simp only [sumP,List.map_cons,List.sum_cons] at ih ⊢;omega
   have hs0:=hsl l
   rw [qeO]
   split
   ·rename_i ht
    have e:=h2 ht
    have hv:=h1.1 ht
    obtain ⟨i1,i2⟩:=qkQ h hg l (f a n).2 (by omega)
    rw [i1,hs,List.all_cons,Bool.and_eq_true,e]
    refine ⟨⟨fun ⟨a1,a2⟩=>⟨⟨hv.1,a1⟩,by omega⟩,fun ⟨⟨_,a1⟩,a2⟩=>⟨a1,by omega⟩⟩,fun h3=>?_⟩
    have:=i2 (i1.2 ⟨h3.1,by omega⟩)
    rw [e] at this;omega
   ·rename_i ht
    refine ⟨⟨fun h3=>(by cases h3),fun ⟨h3,h4⟩=>?_⟩,fun h3=>(by cases h3)⟩
    rw [List.all_cons,Bool.and_eq_true] at h3
    exact absurd (h1.2 ⟨h3.1,by omega⟩) ht
theorem qhA (h:l.length=1):l=[hdP l]:=by
 cases l with
 | nil=>simp at h
 | cons a l=>cases l with
   | nil=>rfl
   | cons b l=>simp at h
theorem ql0:∀ (d:Nat) (p:Pt) (n:Int),0≤n→((qc2 d p n).1=true↔patB d p=true∧qcC d p≤n)∧((qc2 d p n).1=true→(qc2 d p n).2=n-qcC d p)
 | 0,p,n,hn=>by simp [qc2,patB]
 | d+1,p,n,hn=>by
   rw [qoW,qcC,qc2]
   by_cases hf:qbV p=true
   ·rw [if_pos hf,hf]
    by_cases hk:p.kind=1
    ·simp only [hk,if_true,decide_true,Bool.true_or,Bool.and_true,decide_eq_true_eq,true_and]
     refine ⟨by omega,?_⟩
     first|exact fun _=>rfl|exact fun _=>trivial|trivial
    ·rw [if_neg hk,if_neg hk,decide_eq_false hk]
     simp only [Bool.true_and,Bool.false_or]
     obtain ⟨i1,i2⟩:=qkQ (ql0 d) (qkJ d) (p.l++p.r++p.c) n hn
     rw [i1]
     refine ⟨?_,fun h=>i2 (i1.2 h)⟩
     rw [qbV,if_neg hk] at hf
     split at hf
     ·simp only [Bool.and_eq_true,decide_eq_true_eq] at hf
      obtain ⟨⟨⟨⟨h1,h2⟩,h3⟩,_⟩,_⟩:=hf
      rw [List.all_append,List.all_append,qhA h1,qhA h2]
      simp only [List.all_cons,List.all_nil,Bool.and_true,hdP,List.headD_cons]
      by_cases hc:p.c.length=0
      ·rw [List.eq_nil_of_length_eq_zero hc];simp
      ·have hc1:p.c.length=1:=by split at h3<;>omega
       rw [qhA hc1];simp [hdP]
     ·cases hf
   ·rw [if_neg hf]
    have hf2:qbV p=false:=by simpa using hf
    rw [hf2];simp
end Go.Proofs.YtpgceiijoedppaaGreat