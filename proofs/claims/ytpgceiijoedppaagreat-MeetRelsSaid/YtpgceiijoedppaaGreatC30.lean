/- Part 30 of the proof: Mf. -/
import Derived.Test.YtpgceiijoedppaaGreatC29
set_option linter.unusedVariables false
set_option linter.unusedSimpArgs false
namespace Go.Proofs.YtpgceiijoedppaaGreat
open Go
section
variable {α:Type}
def qmm (f:α→Int→Bool×Int):Nat→List α→Int→Int
 | 0,_,n=>n
 | _+1,[],n=>n
 | k+1,a::l,n=>qmm f k l (f a n).2
def thrK (f:α→Int→Bool×Int)(l:List α)(n:Int)(k:Nat):Int:=qmm f k l n
def thrP (f:α→Int→Bool×Int):List α→Int→Nat→Bool
 | [],_,_=>false
 | a::_,n,0=>!(f a n).1
 | a::l,n,k+1=>thrP f l (f a n).2 k
theorem qnt (f:α→Int→Bool×Int):∀ (l:List α) (n:Int) (k:Nat) (u:α),l[k]?=some u→(∀ j,j<k→thrP f l n j=false)→thrP f l n k=!(f u (thrK f l n k)).1∧thrK f l n (k+1)=(f u (thrK f l n k)).2
 | [],n,k,u,hu,_=>by simp at hu
 | a::l,n,0,u,hu,_=>by
   simp only [List.getElem?_cons_zero,Option.some.injEq] at hu
   subst hu
   cases l<;>simp [thrP,thrK,qmm]
 | a::l,n,k+1,u,hu,h=>by
   simpa only [thrP,thrK,qmm] using qnt f l (f a n).2 k u (by simpa using hu) (fun j hj=>by simpa [thrP] using h (j+1) (by omega))
theorem qlI (f:α→Int→Bool×Int)(h:∀ t n,0≤n→-1≤(f t n).2∧(f t n).2≤n∧((f t n).1=true→0≤(f t n).2)):∀ (l:List α) (n:Int) (k:Nat),0≤n→(∀ j,j<k→thrP f l n j=false)→k≤l.length→0≤thrK f l n k∧thrK f l n k≤n
 | l,n,0,hn,_,_=>by cases l<;>simp [thrK,qmm]<;>omega
 | [],n,k+1,hn,_,hk=>by simp at hk
 | a::l,n,k+1,hn,hj,hk=>by
   have h0:=hj 0 (by omega)
   simp only [thrP,Bool.not_eq_false'] at h0
   have h1:=h a n hn
   have:=qlI f h l (f a n).2 k (h1.2.2 h0) (fun j hj'=>by simpa [thrP] using hj (j+1) (by omega)) (by simpa using hk)
   simp only [thrK,qmm] at this ⊢;omega
end
theorem qjy (f:Pt→Int→Bool×Int)(h:∀ t n,0≤n→-1≤(f t n).2∧(f t n).2≤n∧((f t n).1=true→0≤(f t n).2)):∀ (l:List Pt) (n:Int),0≤n→-1≤(qeO f l n).2∧(qeO f l n).2≤n∧((qeO f l n).1=true→0≤(qeO f l n).2)
 | [],n,hn=>by simp [qeO];omega
 | a::l,n,hn=>by
   have h1:=h a n hn
   simp only [qeO]
   split
   ·rename_i hb
    have:=qjy f h l (f a n).2 (h1.2.2 hb)
    exact ⟨this.1,by omega,this.2.2⟩
   ·exact ⟨h1.1,h1.2.1,by simp⟩
theorem qkP:∀ (d:Nat) (t:Pt) (n:Int),0≤n→-1≤(qc2 d t n).2∧(qc2 d t n).2≤n∧((qc2 d t n).1=true→0≤(qc2 d t n).2)
 | 0,t,n,hn=>by simp [qc2];omega
 | d+1,t,n,hn=>by
   simp only [qc2]
   split
   ·split
    ·simp;omega
    ·exact qjy (qc2 d) (fun t n hn=>qkP d t n hn) _ n hn
   ·simp;omega
theorem ql1 (f:Pt→Int→Bool×Int):∀ (l:List Pt) (n:Int) (m k:Nat) (b:Bool),(∀ j,j<m→thrP f l n j=false)→((m<l.length∧thrP f l n m=true∧b=true∧k=m+1)∨(m=l.length∧b=false∧k=m))→qeO f l n=(!b,thrK f l n k)
 | [],n,m,k,b,_,hc=>by
   rcases hc with ⟨h,_⟩|⟨rfl,rfl,rfl⟩
   ·simp at h
   ·simp [qeO,thrK,qmm]
 | a::l,n,0,k,b,_,hc=>by
   rcases hc with ⟨_,h,rfl,rfl⟩|⟨h,_⟩
   ·simp only [thrP,Bool.not_eq_true'] at h
    cases l<;>simp [qeO,thrK,qmm,h]
   ·simp at h
 | a::l,n,m+1,k,b,hj,hc=>by
   have h0:=hj 0 (by omega)
   simp only [thrP,Bool.not_eq_false'] at h0
   obtain ⟨k,rfl⟩:∃ k',k=k'+1:=by rcases hc with ⟨_,_,_,rfl⟩|⟨_,_,rfl⟩<;>exact ⟨_,rfl⟩
   have:=ql1 f l (f a n).2 m k b (fun j hj'=>by simpa [thrP] using hj (j+1) (by omega)) (by
    rcases hc with ⟨h1,h2,h3,h4⟩|⟨h1,h2,h3⟩
    ·exact .inl ⟨by simpa using h1,by simpa [thrP] using h2,h3,by omega⟩
    ·exact .inr ⟨by simpa using h1,h2,by omega⟩)
   simp only [qeO,h0,if_true,this,thrK,qmm]
def okP (p:Pt):Bool:=(qc2 8 p 12).1
theorem qh9 (p:Pt):okP p=true↔patB 8 p=true∧qcC 8 p≤12:=(ql0 8 p 12 (by omega)).1
end Go.Proofs.YtpgceiijoedppaaGreat