import Derived.Laws.Strings
import Derived.Test.YtlapbjdhekcipaaGreatQC
set_option linter.unusedVariables false
set_option linter.unusedSimpArgs false
/- Numbers: digits to the base 2^32 and 256, and the model's wrapping. Plain Lean, no program in sight. -/
namespace Go.Ae
open Go
/-! ### Wrapping -/
theorem T9 (x:Int):IntKind.i64.wrap x=if x % 18446744073709551616 ≥ 9223372036854775808 then x % 18446744073709551616 - 18446744073709551616 else x % 18446744073709551616:=by
 have:IntKind.i64.wrap x=if (true && decide (x % (2 ^ 64:Int) ≥ (2 ^ 63:Int)))=true then x % (2 ^ 64:Int) - (2 ^ 64:Int) else x % (2 ^ 64:Int):=rfl
 rw [this]
 simp
theorem au {x:Int} (h:-9223372036854775808≤x) (J:x < 9223372036854775808):IntKind.i64.wrap x=x:=by
 rw [T9]
 split <;> omega
theorem AW (x:Int):IntKind.u64.wrap x=x % 18446744073709551616:=by
 unfold IntKind.wrap
 simp [IntKind.bits,IntKind.signed]
theorem bN {x:Int} (h:0≤x) (J:x < 18446744073709551616):IntKind.u64.wrap x=x:=by rw [AW]; omega
theorem vH (x:Int):IntKind.u32.wrap x=x % 4294967296:=by
 unfold IntKind.wrap
 simp [IntKind.bits,IntKind.signed]
theorem dq {x:Int} (h:0≤x) (J:x < 4294967296):IntKind.u32.wrap x=x:=by rw [vH]; omega
theorem kT (x:Int):IntKind.u8.wrap x=x % 256:=by
 unfold IntKind.wrap
 simp [IntKind.bits,IntKind.signed]
theorem dH {x:Int} (h:0≤x) (J:x < 256):IntKind.u8.wrap x=x:=by rw [kT]; omega
/-! ### Digits to the base 2^32 -/
abbrev B:Nat:=4294967296
theorem eh (n:Nat):0 < B ^ n:=Nat.pow_pos (by decide)
def al (N i:Nat):Nat:=N / B ^ i % B
theorem cQ (N i:Nat):al N i < B:=Nat.mod_lt _ (by decide)
def cL (Y j d:Nat):Nat:=Y % B ^ j+B ^ j*(d+B*(Y / B ^ (j+1)))
theorem Ed (Y j:Nat):Y=Y % B ^ j+B ^ j*(al Y j+B*(Y / B ^ (j+1))):=by
 have h1:=Nat.mod_add_div Y (B ^ j)
 have J:=Nat.mod_add_div (Y / B ^ j) B
 rw [Nat.div_div_eq_div_mul,← Nat.pow_succ] at J
 unfold al
 rw [J,h1]
theorem oY (Y j d:Nat):cL Y j d+al Y j*B ^ j=Y+d*B ^ j:=by
 have h:=Ed Y j
 unfold cL
 rw [Nat.mul_add] at h ⊢
 have e1:B ^ j*al Y j=al Y j*B ^ j:=Nat.mul_comm _ _
 have e2:B ^ j*d=d*B ^ j:=Nat.mul_comm _ _
 omega
theorem ob {a k Q:Nat} (h:a < k):(a+k*Q) / k=Q:=by
 have hk:0 < k:=by omega
 rw [Nat.add_mul_div_left _ _ hk,Nat.div_eq_of_lt h,Nat.zero_add]
theorem EP {Y j d:Nat} (hd:d < B) (r:Nat):al (cL Y j d) r=if r=j then d else al Y r:=by
 have ha:Y % B ^ j < B ^ j:=Nat.mod_lt _ (eh j)
 rcases Nat.lt_trichotomy r j with h | h | h
 ·rw [if_neg (by omega)]
  have key:∀ K,al (Y % B ^ j+B ^ j*K) r=al (Y % B ^ j) r:=by
   intro K
   unfold al
   have e:B ^ j*K=B ^ r*(B*(B ^ (j - r - 1)*K)):=by
    rw [← Nat.mul_assoc,← Nat.mul_assoc,← Nat.pow_succ,← Nat.pow_add,show r+1+(j - r - 1)=j by omega]
   rw [e,Nat.add_mul_div_left _ _ (eh r),Nat.add_mul_mod_self_left]
  have h1:=key (d+B*(Y / B ^ (j+1)))
  have J:=key (al Y j+B*(Y / B ^ (j+1)))
  rw [← Ed Y j] at J
  unfold cL
  rw [h1,J]
 ·subst h
  rw [if_pos rfl]
  unfold cL al
  rw [ob ha,Nat.add_mul_mod_self_left,Nat.mod_eq_of_lt hd]
 ·rw [if_neg (by omega)]
  have key:∀ d',d' < B→al (Y % B ^ j+B ^ j*(d'+B*(Y / B ^ (j+1)))) r=Y / B ^ (j+1) / B ^ (r - j - 1) % B:=by
   intro d' cY
   unfold al
   have e:B ^ r=B ^ j*(B*B ^ (r - j - 1)):=by
    rw [← Nat.mul_assoc,← Nat.pow_succ,← Nat.pow_add,show j+1+(r - j - 1)=r by omega]
   rw [e,← Nat.div_div_eq_div_mul,ob ha,← Nat.div_div_eq_div_mul,ob cY]
  have h1:=key d hd
  have J:=key (al Y j) (cQ Y j)
  rw [← Ed Y j] at J
  unfold cL
  rw [h1,J]
def bz (N:Nat):Nat→List Value:=fun r=>[.int .u32 (al N r)]
theorem fG {Y j d:Nat} (hd:d < B):(fun r=>if r=j then [Value.int .u32 d] else bz Y r)=bz (cL Y j d):=by
 funext r
 unfold bz
 rw [EP hd]
 split <;> rfl
theorem Ee (r:Nat):al 0 r=0:=by simp [al]
theorem sS:(fun _=>[Value.int .u32 0])=bz 0:=by
 funext r
 simp [bz,Ee]
theorem ta {N n:Nat} (h:N < B ^ n) {r:Nat} (hr:n≤r):al N r=0:=by
 unfold al
 have:B ^ n≤B ^ r:=Nat.pow_le_pow_right (by decide) hr
 rw [Nat.div_eq_of_lt (by omega)]; rfl
theorem mod_succ (N i:Nat):N % B ^ (i+1)=N % B ^ i+al N i*B ^ i:=by
 unfold al
 rw [Nat.pow_succ,Nat.mod_mul]
 rw [Nat.mul_comm (B ^ i)]
theorem o7 (N i:Nat):N / B ^ i=al N i+B*(N / B ^ (i+1)):=by
 have J:=Nat.mod_add_div (N / B ^ i) B
 rw [Nat.div_div_eq_div_mul,← Nat.pow_succ] at J
 exact J.symm
/-- How many digits. -/
def nl (N:Nat):Nat:=if h:N=0 then 0 else nl (N / B)+1
decreasing_by exact Nat.div_lt_self (by omega) (by decide)
theorem rh:nl 0=0:=by rw [nl]; rfl
theorem Fx {N:Nat} (h:N≠0):nl N=nl (N / B)+1:=by rw [nl]; simp [h]
theorem b9 (N:Nat):N < B ^ nl N:=by
 induction N using Nat.strongRecOn with
 | _ N ih =>
  by_cases h:N=0
  ·subst h; rw [rh]; decide
  ·have:=ih (N / B) (Nat.div_lt_self (by omega) (by decide))
   rw [Fx h,Nat.pow_succ]
   exact (Nat.div_lt_iff_lt_mul (by decide)).1 this
theorem jI {N n:Nat} (h:N < B ^ n):nl N≤n:=by
 induction n generalizing N with
 | zero =>
  have:N=0:=by simpa using h
  subst this; rw [rh]; exact Nat.le_refl _
 | succ n ih =>
  by_cases h0:N=0
  ·subst h0; rw [rh]; omega
  ·have:N / B < B ^ n:=(Nat.div_lt_iff_lt_mul (by decide)).2 (by rw [← Nat.pow_succ]; exact h)
   rw [Fx h0]
   have:=ih this
   omega
theorem yd {N:Nat} (h:N≠0):0 < nl N:=by rw [Fx h]; omega
theorem Kp {N:Nat} (h:nl N=0):N=0:=by
 by_cases h0:N=0
 ·exact h0
 ·have:=yd h0; omega
theorem Qt {N:Nat} (h:N≠0):B ^ (nl N - 1)≤N:=by
 rcases Nat.lt_or_ge N (B ^ (nl N - 1)) with h1 | h1
 ·have:=jI h1
  have:=yd h
  omega
 ·exact h1
theorem NR {N n:Nat} (h:N < B ^ n) (J:n=0∨al N (n - 1)≠0):nl N=n:=by
 rcases J with rfl | J
 ·have:=jI h; omega
 ·have h3:=jI h
  rcases Nat.lt_or_ge (nl N) n with h4 | h4
  ·exact absurd (ta (b9 N) (show nl N≤n - 1 by omega)) J
  ·omega
theorem kU {M N:Nat} (h:M≤N):nl M≤nl N:=jI (Nat.lt_of_le_of_lt h (b9 N))
theorem JT {M N:Nat} (h:nl M < nl N):M < N:=by
 rcases Nat.lt_or_ge M N with h1 | h1
 ·exact h1
 ·have:=kU h1; omega
theorem Ua {N:Nat} (h:N≠0):al N (nl N - 1)≠0:=by
 intro h0
 have h1:=b9 N
 have J:=yd h
 have e:nl N=nl N - 1+1:=by omega
 have h3:=mod_succ N (nl N - 1)
 rw [← e,h0,Nat.mod_eq_of_lt h1] at h3
 have h4:=Nat.mod_lt N (eh (nl N - 1))
 have:=jI (show N < B ^ (nl N - 1) by omega)
 omega
end Go.Ae
/- Numbers: strings of bytes as numbers to the base 256. Plain Lean, no program in sight. -/
namespace Go.Ae
open Go
abbrev C:Nat:=256
theorem gR (n:Nat):0 < C ^ n:=Nat.pow_pos (by decide)
/-- The number that a list of digits spells. -/
def dx (l:List UInt8):Nat:=l.foldl (fun a b=>a*C+b.toNat) 0
theorem K6 (l:List UInt8):∀ a,l.foldl (fun a b=>a*C+b.toNat) a=a*C ^ l.length+dx l:=by
 induction l with
 | nil=>intro a; simp [dx]
 | cons b l ih =>
  intro a
  simp only [List.foldl_cons,dx]
  rw [ih,ih (0*C+b.toNat)]
  rw [List.length_cons,Nat.pow_succ,Nat.add_mul,Nat.zero_mul,Nat.zero_add,Nat.mul_assoc,Nat.mul_comm C,Nat.add_assoc]
theorem qT (b:UInt8) (l:List UInt8):dx (b::l)=b.toNat*C ^ l.length+dx l:=by
 have:=K6 l (0*C+b.toNat)
 rw [Nat.zero_mul,Nat.zero_add] at this
 simpa [dx] using this
theorem An (l m:List UInt8):dx (l++m)=dx l*C ^ m.length+dx m:=by
 unfold dx
 rw [List.foldl_append,K6]
 rfl
theorem GK (b:UInt8):b.toNat < C:=b.toNat_lt
theorem ri (l:List UInt8):dx l < C ^ l.length:=by
 induction l with
 | nil=>decide
 | cons b l ih =>
  rw [qT,List.length_cons,Nat.pow_succ]
  have:=GK b
  have J:(b.toNat+1)*C ^ l.length≤C*C ^ l.length:=Nat.mul_le_mul_right _ this
  rw [Nat.add_mul] at J
  rw [Nat.mul_comm (C ^ l.length)]
  omega
theorem Ub {l:List UInt8} {i:Nat} (h:i < l.length):l[i].toNat=dx l / C ^ (l.length - 1 - i) % C:=by
 induction l generalizing i with
 | nil=>simp at h
 | cons b l ih =>
  cases i with
  | zero =>
   simp only [List.getElem_cons_zero,List.length_cons,Nat.add_sub_cancel,Nat.sub_zero]
   rw [qT,Nat.mul_comm,Nat.mul_add_div (gR _),Nat.div_eq_of_lt (ri l),Nat.add_zero,Nat.mod_eq_of_lt (GK b)]
  | succ i =>
   have hi:i < l.length:=by simpa using h
   simp only [List.getElem_cons_succ,List.length_cons,Nat.add_sub_cancel]
   rw [ih hi,qT]
   have e:C ^ l.length=C ^ (l.length - (i+1))*(C*C ^ i):=by
    rw [← Nat.mul_assoc,← Nat.pow_succ,← Nat.pow_add,show l.length - (i+1)+1+i=l.length by omega]
   rw [show l.length - 1 - i=l.length - (i+1) by omega,e]
   rw [show b.toNat*(C ^ (l.length - (i+1))*(C*C ^ i))=C ^ (l.length - (i+1))*(C*(C ^ i*b.toNat)) by
    rw [Nat.mul_comm,Nat.mul_assoc,Nat.mul_assoc]]
   rw [Nat.mul_add_div (gR _),Nat.mul_add_mod]
def ab (s:ByteArray):Nat:=dx s.data.toList
theorem size_eq (s:ByteArray):s.data.toList.length=s.size:=rfl
theorem gw (s:ByteArray):ab s < C ^ s.size:=ri _
theorem s4 {s:ByteArray} {i:Nat} (h:i < s.size):cf s i=ab s / C ^ (s.size - 1 - i) % C:=by
 have h':i < s.data.toList.length:=h
 have:=Ub h'
 unfold cf ab
 rw [List.getD_eq_getElem?_getD,List.getElem?_eq_getElem h',Option.getD_some,this]
 rfl
theorem vA (s:ByteArray) (i:Nat):cf s i < C:=GK _
theorem F6 {s t:ByteArray} (h:s.data.toList=t.data.toList):s=t:=by
 cases s; cases t; congr; exact Array.ext' h
theorem Uc {l m:List UInt8} (h:l.length=m.length) (J:dx l=dx m):l=m:=by
 induction l generalizing m with
 | nil=>cases m with
  | nil=>rfl
  | cons=>simp at h
 | cons a l ih=>cases m with
  | nil=>simp at h
  | cons b m =>
   simp only [List.length_cons,Nat.add_right_cancel_iff] at h
   rw [qT,qT,h] at J
   have h3:=ri l
   have h4:=ri m
   rw [h] at h3
   have ha:a.toNat=b.toNat:=by
    have e1:(a.toNat*C ^ m.length+dx l) / C ^ m.length=a.toNat:=by
     rw [Nat.mul_comm,Nat.mul_add_div (gR _),Nat.div_eq_of_lt h3,Nat.add_zero]
    have e2:(b.toNat*C ^ m.length+dx m) / C ^ m.length=b.toNat:=by
     rw [Nat.mul_comm,Nat.mul_add_div (gR _),Nat.div_eq_of_lt h4,Nat.add_zero]
    rw [← e1,← e2,J]
   rw [ha] at J
   rw [UInt8.toNat_inj.1 ha,ih h (by omega)]
theorem Ud {s t:ByteArray} (h:s.size=t.size) (J:ab s=ab t):s=t:=F6 (Uc h J)
/-- n digits of a number. -/
def oR:Nat→Nat→List UInt8
 | 0,_=>[]
 | n+1,Y=>oR n (Y / C)++[UInt8.ofNat (Y % C)]
theorem vn:∀ (n Y:Nat),(oR n Y).length=n
 | 0,_=>rfl
 | n+1,Y=>by simp [oR,vn n]
theorem ofNat_mod (x:Nat):(UInt8.ofNat (x % C)).toNat=x % C:=by
 have:x % C < 256:=Nat.mod_lt _ (by decide)
 simp [UInt8.toNat_ofNat,Nat.mod_eq_of_lt this]
theorem LH:∀ (n Y:Nat),dx (oR n Y)=Y % C ^ n
 | 0,Y=>by simp [oR,dx,Nat.mod_one]
 | n+1,Y=>by
  rw [oR,An,LH n,qT]
  simp only [List.length_cons,List.length_nil,Nat.zero_add,Nat.pow_zero,Nat.mul_one,Nat.pow_one]
  rw [ofNat_mod,Nat.pow_succ,Nat.mul_comm (C ^ n),Nat.mod_mul]
  simp only [dx,List.foldl_nil,Nat.add_zero]
  rw [Nat.mul_comm]; omega
def be (n Y:Nat):ByteArray:=⟨⟨oR n Y⟩⟩
theorem vT (n Y:Nat):(be n Y).size=n:=vn n Y
theorem Fy (n Y:Nat):ab (be n Y)=Y % C ^ n:=LH n Y
/-- How many digits. -/
def aR (N:Nat):Nat:=if h:N=0 then 0 else aR (N / C)+1
decreasing_by exact Nat.div_lt_self (by omega) (by decide)
theorem vI:aR 0=0:=by rw [aR]; rfl
theorem ER {N:Nat} (h:N≠0):aR N=aR (N / C)+1:=by rw [aR]; simp [h]
theorem kW (N:Nat):N < C ^ aR N:=by
 induction N using Nat.strongRecOn with
 | _ N ih =>
  by_cases h:N=0
  ·subst h; rw [vI]; decide
  ·have:=ih (N / C) (Nat.div_lt_self (by omega) (by decide))
   rw [ER h,Nat.pow_succ]
   exact (Nat.div_lt_iff_lt_mul (by decide)).1 this
theorem gJ {N n:Nat} (h:N < C ^ n):aR N≤n:=by
 induction n generalizing N with
 | zero =>
  have:N=0:=by simpa using h
  subst this; rw [vI]; exact Nat.le_refl _
 | succ n ih =>
  by_cases h0:N=0
  ·subst h0; rw [vI]; omega
  ·have:N / C < C ^ n:=(Nat.div_lt_iff_lt_mul (by decide)).2 (by rw [← Nat.pow_succ]; exact h)
   rw [ER h0]
   have:=ih this
   omega
theorem Fz {N:Nat} (h:N≠0):0 < aR N:=by rw [ER h]; omega
theorem QV {N:Nat} (h:aR N=0):N=0:=by
 by_cases h0:N=0
 ·exact h0
 ·have:=Fz h0; omega
theorem iO {M N:Nat} (h:M≤N):aR M≤aR N:=gJ (Nat.lt_of_le_of_lt h (kW N))
theorem Qu {M N:Nat} (h:aR M < aR N):M < N:=by
 rcases Nat.lt_or_ge M N with h1 | h1
 ·exact h1
 ·have:=iO h1; omega
theorem Nf {N n:Nat} (h:N < C ^ n) (J:n=0∨C ^ (n - 1)≤N):aR N=n:=by
 rcases J with rfl | J
 ·have:=gJ h; omega
 ·have h3:=gJ h
  rcases Nat.lt_or_ge (aR N) n with h4 | h4
  ·have h5:C ^ aR N≤C ^ (n - 1):=Nat.pow_le_pow_right (by decide) (by omega)
   have:=kW N
   omega
  ·omega
theorem Qi {N:Nat} (h:N≠0):C ^ (aR N - 1)≤N:=by
 rcases Nat.lt_or_ge N (C ^ (aR N - 1)) with h1 | h1
 ·have:=gJ h1
  have:=Fz h
  omega
 ·exact h1
/-- The digits of a number, no zero ahead. -/
def nb (N:Nat):ByteArray:=be (aR N) N
theorem gD (N:Nat):(nb N).size=aR N:=vT _ _
theorem ia (N:Nat):ab (nb N)=N:=by unfold nb; rw [Fy,Nat.mod_eq_of_lt (kW N)]
theorem Ng {M N:Nat} (h:nb M=nb N):M=N:=by rw [← ia M,h,ia]
theorem pf:nb 0=⟨#[]⟩:=by unfold nb; rw [vI]; rfl
theorem jb (s:ByteArray):aR (ab s)≤s.size:=gJ (gw s)
theorem aaS {s:ByteArray} (h:s.size=0∨C ^ (s.size - 1)≤ab s):s=nb (ab s):=by
 refine Ud ?_ (ia _).symm
 rw [gD,Nf (gw s) h]
theorem ye {s:ByteArray} (h:s.size=0∨cf s 0≠0):s=nb (ab s):=by
 refine aaS (h.imp_right fun h=>?_)
 by_cases h0:s.size=0
 ·exfalso
  apply h
  unfold cf
  have:s.data.toList=[]:=List.eq_nil_of_length_eq_zero h0
  rw [this]; rfl
 ·rw [s4 (by omega)] at h
  rcases Nat.lt_or_ge (ab s) (C ^ (s.size - 1)) with h1 | h1
  ·rw [Nat.sub_zero,Nat.div_eq_of_lt h1] at h
   exact absurd rfl h
  ·exact h1
/-! ### Strings cut, joined and compared -/
theorem QW (s t:ByteArray):ab (s++t)=ab s*C ^ t.size+ab t:=by
 unfold ab
 have:(s++t).data.toList=s.data.toList++t.data.toList:=by simp
 rw [this,An]; rfl
theorem Jy (s:ByteArray) (l h:Nat):(s.extract l h).data.toList=(s.data.toList.take h).drop l:=by
 simp [ByteArray.data_extract,List.extract,List.drop_take]
theorem Dk {s:ByteArray} {l h:Nat} (h1:l≤h) (J:h≤s.size):(s.extract l h).size=h - l:=by
 rw [← size_eq,Jy]
 have:h≤s.data.toList.length:=J
 simp; omega
theorem SS (l:List UInt8) (n:Nat) (h:n≤l.length):dx (l.drop n)=dx l % C ^ (l.length - n):=by
 have e:dx l=dx (l.take n)*C ^ (l.drop n).length+dx (l.drop n):=by rw [← An,List.take_append_drop]
 have J:=ri (l.drop n)
 rw [List.length_drop] at e J
 rw [e,Nat.mul_comm,Nat.mul_add_mod,Nat.mod_eq_of_lt J]
theorem SU (l:List UInt8) (n:Nat) (h:n≤l.length):dx (l.take n)=dx l / C ^ (l.length - n):=by
 have e:dx l=dx (l.take n)*C ^ (l.drop n).length+dx (l.drop n):=by rw [← An,List.take_append_drop]
 have J:=ri (l.drop n)
 rw [List.length_drop] at e J
 rw [e,Nat.mul_comm,Nat.mul_add_div (gR _),Nat.div_eq_of_lt J,Nat.add_zero]
theorem Dp {s:ByteArray} {l h:Nat} (h1:l≤h) (J:h≤s.size):ab (s.extract l h)=ab s / C ^ (s.size - h) % C ^ (h - l):=by
 unfold ab
 have jV:h≤s.data.toList.length:=J
 have e:(s.data.toList.take h).length=h:=by rw [List.length_take]; omega
 rw [Jy,SS _ _ (by rw [e]; exact h1),SU _ _ jV,e]
 rfl
theorem pC (s t:ByteArray):(s.toList == t.toList)=decide (s=t):=by
 rw [ByteArray.toList_eq,ByteArray.toList_eq]
 by_cases h:s=t
 ·subst h; simp
 ·simp [h]
  intro J
  exact h (F6 (by rw [J]))
theorem Em {s:ByteArray}:s=⟨#[]⟩↔s.size=0:=by
 constructor
 ·intro h; subst h; rfl
 ·intro h
  refine F6 ?_
  exact List.eq_nil_of_length_eq_zero h
theorem Jz {N:Nat}:nb N=⟨#[]⟩↔N=0:=by
 rw [Em,gD]
 exact ⟨QV,fun h=>by rw [h,vI]⟩
theorem JA:∀ {l m:List UInt8},l.length=m.length→Op.bytesLess l m=decide (dx l < dx m)
 | [],[],_=>by simp [Op.bytesLess,dx]
 | [],_::_,h=>by simp at h
 | _::_,[],h=>by simp at h
 | a::l,b::m,h=>by
  have h:l.length=m.length:=by simpa using h
  have ih:=JA h
  unfold Op.bytesLess
  rw [ih,qT,qT,h]
  have h3:=ri l
  have h4:=ri m
  rw [h] at h3
  rcases Nat.lt_trichotomy a.toNat b.toNat with eH | eH | eH
  ·have:a < b:=UInt8.lt_iff_toNat_lt.2 eH
   have h5:(a.toNat+1)*C ^ m.length≤b.toNat*C ^ m.length:=Nat.mul_le_mul_right _ eH
   rw [Nat.add_mul] at h5
   have h6:a.toNat*C ^ m.length+dx l < b.toNat*C ^ m.length+dx m:=by omega
   simp [this,h6]
  ·have e:a=b:=UInt8.toNat_inj.1 eH
   subst e
   simp
  ·have:¬ a < b:=fun h=>by have:=UInt8.lt_iff_toNat_lt.1 h; omega
   have h5:(b.toNat+1)*C ^ m.length≤a.toNat*C ^ m.length:=Nat.mul_le_mul_right _ eH
   rw [Nat.add_mul] at h5
   have h6:¬ (a.toNat*C ^ m.length+dx l < b.toNat*C ^ m.length+dx m):=by omega
   have h7:¬ a=b:=fun e=>by subst e; omega
   simp [this,h6,h7]
theorem Ue {s t:ByteArray} (h:s.size=t.size):Op.bytesLess s.toList t.toList=decide (ab s < ab t):=by
 rw [ByteArray.toList_eq,ByteArray.toList_eq]
 exact JA h
end Go.Ae
/- Numbers: bits of words. Plain Lean, no program in sight. -/
namespace Go.Ae
open Go
theorem rH (a:Int) (k:Nat):a.fdiv (2 ^ k)=a / 2 ^ k:=Int.fdiv_eq_ediv_of_nonneg _ (Int.le_of_lt (Int.pow_pos (by decide)))
theorem Eo (b:BitVec 32):IntKind.u32.wrap (b.toNat:Int)=b.toNat:=dq (by omega) (by have:=b.isLt; omega)
theorem Uf {w:Nat} (b:BitVec w):BitVec.ofInt w (b.toNat:Int)=b:=by
 rw [BitVec.ofInt_natCast,BitVec.ofNat_toNat]; simp
theorem VC (b:BitVec 32):(b.toNat:Int) / 2147483648=if b.msb then 1 else 0:=by
 have h:=b.isLt
 rw [BitVec.msb_eq_decide]
 by_cases h1:2 ^ (32 - 1)≤b.toNat
 ·simp [h1]; omega
 ·simp [h1]; omega
theorem toNat_ofInt32 (x:Nat) (h:x < 4294967296):(BitVec.ofInt 32 (x:Int)).toNat=x:=by
 rw [BitVec.ofInt_natCast,BitVec.toNat_ofNat]; exact Nat.mod_eq_of_lt h
theorem Dx (x:Nat) (h:x < 4294967296):(BitVec.ofInt 32 (x:Int)).msb=decide (2147483648≤x):=by
 rw [BitVec.msb_eq_decide,toNat_ofInt32 x h]
/-- What Sub32 gives for the borrow. -/
theorem Rz (x y c:Nat) (hx:x < 4294967296) (hy:y < 4294967296) (hc:c≤1) (d:Nat) (hd:d=(x+2*4294967296 - y - c) % 4294967296) :
  (((BitVec.ofInt 32 (4294967295:Int) ^^^ BitVec.ofInt 32 (x:Int)) &&& BitVec.ofInt 32 (y:Int)) ||| ((BitVec.ofInt 32 (4294967295:Int) ^^^ (BitVec.ofInt 32 (x:Int) ^^^ BitVec.ofInt 32 (y:Int))) &&& BitVec.ofInt 32 (d:Int))).msb=decide (x < y+c):=by
 have cY:d < 4294967296:=by omega
 have ho:(BitVec.ofInt 32 (4294967295:Int)).msb=true:=by decide
 rw [BitVec.msb_or,BitVec.msb_and,BitVec.msb_and,BitVec.msb_xor,BitVec.msb_xor,BitVec.msb_xor,ho,Dx x hx,Dx y hy,Dx d cY]
 by_cases h1:2147483648≤x <;> by_cases J:2147483648≤y <;> by_cases h3:2147483648≤d <;> simp [h1,J,h3] <;> omega
/-- High and low word. -/
theorem VD (x y:Nat) (hx:x < 4294967296) (hy:y < 4294967296):((BitVec.ofInt 64 ((x:Int)*4294967296) ||| BitVec.ofInt 64 (y:Int)).toNat:Int)=(x*4294967296+y:Nat):=by
 have e1:BitVec.ofInt 64 ((x:Int)*4294967296)=BitVec.ofNat 64 (x*4294967296):=by
  rw [← BitVec.ofInt_natCast]; congr 1
 rw [e1,BitVec.ofInt_natCast,BitVec.toNat_or,BitVec.toNat_ofNat,BitVec.toNat_ofNat,Nat.mod_eq_of_lt (by omega),Nat.mod_eq_of_lt (by omega)]
 have:=Nat.shiftLeft_add_eq_or_of_lt (i:=32) (b:=y) (by simpa using hy) x
 rw [Nat.shiftLeft_eq] at this
 have J:(2:Nat) ^ 32=4294967296:=by decide
 rw [J] at this
 rw [← this]
/-! ### Shifts by a number that the text gives -/
theorem dV (a:Int):a.fdiv (2 ^ min (Int.toNat 31) IntKind.u64.bits)=a / 2147483648:=by rw [rH]; rfl
theorem cE (a:Int):a.fdiv (2 ^ min (Int.toNat 32) IntKind.u64.bits)=a / 4294967296:=by rw [rH]; rfl
theorem dr (a:Int):a.fdiv (2 ^ min (Int.toNat 8) IntKind.u32.bits)=a / 256:=by rw [rH]; rfl
theorem dA (a:Int):a.fdiv (2 ^ min (Int.toNat 16) IntKind.u32.bits)=a / 65536:=by rw [rH]; rfl
theorem dF (a:Int):a.fdiv (2 ^ min (Int.toNat 24) IntKind.u32.bits)=a / 16777216:=by rw [rH]; rfl
theorem dc (a:Int):a.fdiv (2 ^ min (Int.toNat 8) IntKind.i64.bits)=a / 256:=by rw [rH]; rfl
def BB (x y c:Int):Int:=IntKind.u32.wrap (IntKind.u32.wrap (x - y) - c)
def F7 (x y c:Int):Int:=(IntKind.u32.wrap ((BitVec.ofInt 32 (IntKind.u32.wrap ((BitVec.ofInt 32 (IntKind.u32.wrap ((BitVec.ofInt 32 (4294967295:Int) ^^^ BitVec.ofInt 32 x).toNat:Int)) &&& BitVec.ofInt 32 y).toNat:Int)) |||
 BitVec.ofInt 32 (IntKind.u32.wrap ((BitVec.ofInt 32 (IntKind.u32.wrap ((BitVec.ofInt 32 (4294967295:Int) ^^^ BitVec.ofInt 32 (IntKind.u32.wrap ((BitVec.ofInt 32 x ^^^ BitVec.ofInt 32 y).toNat:Int))).toNat:Int)) &&&
  BitVec.ofInt 32 (BB x y c)).toNat:Int))).toNat:Int)).fdiv (2 ^ 31)
theorem K7 {x y c:Nat} (hx:x < 4294967296) (hy:y < 4294967296) (hc:c≤1):BB x y c=((x+2*4294967296 - y - c) % 4294967296:Nat):=by
 unfold BB
 rw [vH,vH]; omega
theorem SV {x y c:Nat} (hx:x < 4294967296) (hy:y < 4294967296) (hc:c≤1):F7 x y c=if x < y+c then 1 else 0:=by
 unfold F7
 rw [K7 hx hy hc]
 simp only [Eo,Uf,rH]
 rw [show (2:Int) ^ 31=2147483648 by decide,VC,Rz x y c hx hy hc _ rfl]
 simp
theorem VE {x k:Nat} (h1:2 ^ k≤x) (J:x < 2 ^ (k+1)):x.log2=k:=by
 have hx:x≠0:=by have:=Nat.pow_pos (n:=k) (show 0 < 2 by decide); omega
 have a1:=(Nat.log2_lt hx).2 J
 have a2:=(Nat.le_log2 hx).2 h1
 omega
def ff (x:Nat):Nat:=if x=0 then 0 else x.log2+1
theorem FA (x:Nat):x < 2 ^ ff x:=by
 unfold ff
 split
 ·omega
 ·rename_i h; exact (Nat.log2_lt h).1 (Nat.lt_succ_self _)
theorem Jh {x:Nat} (h:x≠0):2 ^ (ff x - 1)≤x:=by
 unfold ff
 rw [if_neg h]
 exact (Nat.le_log2 h).1 (Nat.le_refl _)
theorem VF {x k:Nat} (h1:x < 2 ^ k) (J:k=0∨2 ^ (k - 1)≤x):ff x=k:=by
 rcases J with rfl | J
 ·have:x=0:=by simpa using h1
  subst this; rfl
 ·by_cases h0:k=0
  ·subst h0
   have:x=0:=by simpa using h1
   subst this; rfl
  ·have hx:x≠0:=by have:=Nat.pow_pos (n:=k - 1) (show 0 < 2 by decide); omega
   unfold ff
   rw [if_neg hx,VE J (by rw [show k - 1+1=k by omega]; exact h1)]
   omega
theorem Ay {x k:Nat} (h:2 ^ k≤x):ff x=k+ff (x / 2 ^ k):=by
 have hp:=Nat.pow_pos (n:=k) (show 0 < 2 by decide)
 have hq:x / 2 ^ k≠0:=by have:=Nat.div_pos h hp; omega
 have hb:0 < ff (x / 2 ^ k):=by unfold ff; rw [if_neg hq]; omega
 refine VF ?_ (.inr ?_)
 ·have:=FA (x / 2 ^ k)
  rw [Nat.pow_add,Nat.mul_comm]
  exact (Nat.div_lt_iff_lt_mul hp).1 this
 ·have:=Jh hq
  rw [show k+ff (x / 2 ^ k) - 1=k+(ff (x / 2 ^ k) - 1) by omega,Nat.pow_add,Nat.mul_comm]
  exact (Nat.le_div_iff_mul_le hp).1 this
theorem dC (x y:Nat) (hx:x < 4294967296) (hy:y < 4294967296):IntKind.u64.wrap ((BitVec.ofInt IntKind.u64.bits ((x:Int)*4294967296) ||| BitVec.ofInt IntKind.u64.bits (y:Int)).toNat:Int)=(x:Int)*4294967296+y:=by
 have h:=VD x y hx hy
 have:IntKind.u64.wrap ((BitVec.ofInt 64 ((x:Int)*4294967296) ||| BitVec.ofInt 64 (y:Int)).toNat:Int)=(x:Int)*4294967296+y:=by
  rw [h,bN (by omega) (by omega)]; omega
 exact this
theorem VG (x y:Nat) (hx:x < 36028797018963968) (hy:y < 256):((BitVec.ofInt 64 ((x:Int)*256) ||| BitVec.ofInt 64 (y:Int)).toNat:Int)=(x*256+y:Nat):=by
 have e1:BitVec.ofInt 64 ((x:Int)*256)=BitVec.ofNat 64 (x*256):=by
  rw [← BitVec.ofInt_natCast]; congr 1
 rw [e1,BitVec.ofInt_natCast,BitVec.toNat_or,BitVec.toNat_ofNat,BitVec.toNat_ofNat,Nat.mod_eq_of_lt (by omega),Nat.mod_eq_of_lt (by omega)]
 have:=Nat.shiftLeft_add_eq_or_of_lt (i:=8) (b:=y) (by simpa using hy) x
 rw [Nat.shiftLeft_eq] at this
 have J:(2:Nat) ^ 8=256:=by decide
 rw [J] at this
 rw [← this]
theorem dM (x y:Nat) (hx:x < 36028797018963968) (hy:y < 256):IntKind.i64.wrap ((BitVec.ofInt IntKind.i64.bits ((x:Int)*256) ||| BitVec.ofInt IntKind.i64.bits (y:Int)).toNat:Int)=(x:Int)*256+y:=by
 have h:=VG x y hx hy
 have:IntKind.i64.wrap ((BitVec.ofInt 64 ((x:Int)*256) ||| BitVec.ofInt 64 (y:Int)).toNat:Int)=(x:Int)*256+y:=by
  rw [h,au (by omega) (by omega)]; omega
 exact this
theorem toNat_cast (n:Nat):((n:Int)).toNat=n:=Int.toNat_natCast n
theorem VH {x:Nat} (h:x < 256):ff x≤8:=by
 unfold ff
 split
 ·omega
 ·rename_i h0; have:=(Nat.log2_lt h0).2 (show x < 2 ^ 8 from h); omega
theorem LI {x:Nat} (h:x < 4294967296):ff x≤32:=by
 unfold ff
 split
 ·omega
 ·rename_i h0; have:=(Nat.log2_lt h0).2 (show x < 2 ^ 32 from h); omega
theorem dU (c:Nat):tD c 0=c:=by
 unfold tD
 cases h:decide (c=aN) with
 | true=>exact (of_decide_eq_true h).symm
 | false=>rfl
theorem toNat_0:Int.toNat 0=0:=rfl
theorem toNat_1:Int.toNat 1=1:=rfl
theorem F8 (x y k:Nat) (hx:x < 2 ^ k):x ||| (y*2 ^ k)=x+y*2 ^ k:=by
 have:=Nat.shiftLeft_add_eq_or_of_lt hx y
 rw [Nat.shiftLeft_eq] at this
 rw [Nat.or_comm,← this,Nat.add_comm]
theorem RA (x y e:Nat) (hx:x < 256 ^ e) (hy:y < 256) (he:e < 4):IntKind.u32.wrap ((BitVec.ofInt IntKind.u32.bits (x:Int) ||| BitVec.ofInt IntKind.u32.bits (IntKind.u32.wrap ((y:Int)*2 ^ (min (8*e) IntKind.u32.bits)))).toNat:Int)=((x+y*256 ^ e:Nat):Int):=by
 have hp:(256:Nat) ^ e=2 ^ (8*e):=by rw [show (256:Nat)=2 ^ 8 from rfl,← Nat.pow_mul]
 have ak:x+y*2 ^ (8*e) < 4294967296:=by
  have h1:(y+1)*2 ^ (8*e)≤256*2 ^ (8*e):=Nat.mul_le_mul_right _ hy
  have J:256*2 ^ (8*e)≤4294967296:=by
   have:2 ^ (8*e)≤2 ^ 24:=Nat.pow_le_pow_right (by decide) (by omega)
   omega
  rw [Nat.add_mul] at h1
  rw [hp] at hx
  omega
 have p6:x < 2 ^ (8*e):=by rw [← hp]; exact hx
 have e1:IntKind.u32.wrap ((y:Int)*2 ^ (min (8*e) 32))=((y*2 ^ (8*e):Nat):Int):=by
  rw [show min (8*e) 32=8*e by omega]
  have:((y*2 ^ (8*e):Nat):Int)=(y:Int)*2 ^ (8*e):=by simp
  rw [← this,dq (by omega) (by omega)]
 have key:IntKind.u32.wrap ((BitVec.ofInt 32 (x:Int) ||| BitVec.ofInt 32 (IntKind.u32.wrap ((y:Int)*2 ^ (min (8*e) 32)))).toNat:Int)=((x+y*256 ^ e:Nat):Int):=by
  rw [e1,Eo,BitVec.toNat_or,toNat_ofInt32 _ (by omega),toNat_ofInt32 _ (by omega),F8 _ _ _ p6,hp]
 exact key
theorem Nh {N n:Nat} (h:N < B ^ n) (J:n=0∨B ^ (n - 1)≤N):nl N=n:=by
 rcases J with rfl | J
 ·have:=jI h; omega
 ·have h3:=jI h
  rcases Nat.lt_or_ge (nl N) n with h4 | h4
  ·have h5:B ^ nl N≤B ^ (n - 1):=Nat.pow_le_pow_right (by decide) (by omega)
   have:=b9 N
   omega
  ·omega
theorem Cp (n:Nat):B ^ n=C ^ (4*n):=by rw [Nat.pow_mul]; rfl
theorem Ni (N:Nat):nl N=(aR N+3) / 4:=by
 refine Nh ?_ ?_
 ·rw [Cp]
  exact Nat.lt_of_lt_of_le (kW N) (Nat.pow_le_pow_right (by decide) (by omega))
 ·by_cases h:N=0
  ·left; subst h; rw [vI]
  ·right
   have:=Fz h
   rw [Cp]
   exact Nat.le_trans (Nat.pow_le_pow_right (by decide) (by omega)) (Qi h)
/-- One more byte. -/
theorem SW (N i:Nat):cL (N % C ^ i) (i / 4) (al (N % C ^ i) (i / 4)+N / C ^ i % C*256 ^ (i % 4))=N % C ^ (i+1)∧al (N % C ^ i) (i / 4) < 256 ^ (i % 4):=by
 have hB:B ^ (i / 4)*256 ^ (i % 4)=C ^ i:=by
  rw [Cp,← Nat.pow_add]; congr 1; omega
 have ak:N % C ^ i < C ^ i:=Nat.mod_lt _ (gR i)
 have hl:al (N % C ^ i) (i / 4) < 256 ^ (i % 4):=by
  have h1:N % C ^ i / B ^ (i / 4) < 256 ^ (i % 4):=(Nat.div_lt_iff_lt_mul (eh _)).2 (by rw [Nat.mul_comm,hB]; exact ak)
  unfold al
  exact Nat.lt_of_le_of_lt (Nat.mod_le _ _) h1
 refine ⟨?_,hl⟩
 have h:=oY (N % C ^ i) (i / 4) (al (N % C ^ i) (i / 4)+N / C ^ i % C*256 ^ (i % 4))
 have e:N % C ^ (i+1)=N % C ^ i+C ^ i*(N / C ^ i % C):=by rw [Nat.pow_succ,Nat.mod_mul]
 have e2:N / C ^ i % C*256 ^ (i % 4)*B ^ (i / 4)=C ^ i*(N / C ^ i % C):=by
  rw [Nat.mul_assoc,Nat.mul_comm (256 ^ (i % 4)),hB,Nat.mul_comm]
 rw [Nat.add_mul,e2] at h
 omega
theorem dN (a:Nat):((a:Int)).tdiv 4=((a / 4:Nat):Int):=rfl
theorem dY (a:Nat):((a:Int)).tmod 4=((a % 4:Nat):Int):=rfl
theorem dW (a:Nat):(8:Int)*(a:Int)=((8*a:Nat):Int):=by omega
theorem dZ {m:Nat} (h:0 < m):(m:Int) - 1=((m - 1:Nat):Int):=by omega
theorem ef (m:Nat):(m:Int)+1=((m+1:Nat):Int):=by omega
theorem eD {a b:Nat} (h:b≤a):(a:Int) - (b:Int)=((a - b:Nat):Int):=by omega
theorem eE (a b:Nat):(a:Int)+(b:Int)=((a+b:Nat):Int):=by omega
theorem eg (a:Nat):(8:Int)*(a:Int)=((8*a:Nat):Int):=by omega
/-! ### Limbs as bytes -/
theorem Ug {Q L m r:Nat} (hL:L < B) (hr:r < m):(Q*B+L) / C ^ (m+4 - 1 - r) % C=Q / C ^ (m - 1 - r) % C:=by
 have e:C ^ (m+4 - 1 - r)=B*C ^ (m - 1 - r):=by
  rw [show m+4 - 1 - r=4+(m - 1 - r) by omega,Nat.pow_add]; rfl
 rw [e,← Nat.div_div_eq_div_mul]
 have:(Q*B+L) / B=Q:=by rw [Nat.mul_comm,Nat.mul_add_div (by decide),Nat.div_eq_of_lt hL,Nat.add_zero]
 rw [this]
theorem Uh {Q L e:Nat} (he:e≤3):(Q*B+L) / C ^ e % C=L / C ^ e % C:=by
 have h:B=C ^ e*(C ^ (3 - e)*C):=by
  rw [← Nat.mul_assoc,← Nat.pow_add,← Nat.pow_succ,show (e+(3 - e)).succ=4 by omega]; rfl
 rw [show Q*B=C ^ e*(Q*C ^ (3 - e)*C) by rw [h,Nat.mul_comm Q,Nat.mul_assoc,Nat.mul_comm (C ^ (3 - e)*C) Q,Nat.mul_assoc Q]]
 rw [Nat.mul_add_div (gR _),Nat.mul_add_mod_self_right]
theorem Mz:∀ {n Y r:Nat} (h:r < n),(oR n Y)[r]?=some (UInt8.ofNat (Y / C ^ (n - 1 - r) % C))
 | n+1,Y,r,h=>by
  unfold oR
  by_cases hr:r < n
  ·rw [List.getElem?_append_left (by rw [vn]; exact hr),Mz hr,Nat.div_div_eq_div_mul,← Nat.pow_succ']
   congr 5; omega
  ·have:r=n:=by omega
   subst this
   rw [List.getElem?_append_right (by rw [vn]; exact Nat.le_refl _),vn]
   simp
theorem vo {g:Nat→List Value} {m X:Nat} (h:∀ r,r < m→g r=[.int .u8 ((X / C ^ (m - 1 - r) % C:Nat):Int)]):(⟨⟨bytesOf g 0 m⟩⟩:ByteArray)=be m X:=by
 unfold be
 congr 2
 apply List.ext_getElem?
 intro r
 by_cases hr:r < m
 ·rw [Mz hr]
  unfold bytesOf
  rw [List.getElem?_map,List.getElem?_range hr]
  simp only [Option.map_some,Nat.zero_add,h r hr,toNat_cast]
 ·rw [List.getElem?_eq_none (l:=oR m X) (by rw [vn]; omega),List.getElem?_eq_none (by simp [bytesOf]; omega)]
theorem dB (a:Int):a*2 ^ min (Int.toNat 32) IntKind.u64.bits=a*4294967296:=rfl
theorem dX (a:Int):a*2 ^ min (Int.toNat 8) IntKind.i64.bits=a*256:=rfl
theorem NS (L:Nat):IntKind.u8.wrap ((L:Int) / 16777216)=((L / C ^ 3 % C:Nat):Int):=by rw [kT]; rfl
theorem NT (L:Nat):IntKind.u8.wrap ((L:Int) / 65536)=((L / C ^ 2 % C:Nat):Int):=by rw [kT]; rfl
theorem Oz (L:Nat):IntKind.u8.wrap ((L:Int) / 256)=((L / C ^ 1 % C:Nat):Int):=by rw [kT]; rfl
theorem OA (L:Nat):IntKind.u8.wrap (L:Int)=((L / C ^ 0 % C:Nat):Int):=by rw [kT,Nat.pow_zero,Nat.div_one]; rfl
/-- The four bytes of a limb behind those of the number above it. -/
theorem Kq {N i m:Nat} {g:Nat→List Value} (hi:0 < i) (hg:∀ r,r < m→g r=[.int .u8 ((N / B ^ i / C ^ (m - 1 - r) % C:Nat):Int)]) {L0 L1 L2 L3:List Value}
  (h0:L0=[.int .u8 ((al N (i - 1) / C ^ 3 % C:Nat):Int)]) (h1:L1=[.int .u8 ((al N (i - 1) / C ^ 2 % C:Nat):Int)]) (J:L2=[.int .u8 ((al N (i - 1) / C ^ 1 % C:Nat):Int)]) (h3:L3=[.int .u8 ((al N (i - 1) / C ^ 0 % C:Nat):Int)]) :
  ∀ r,r < m+4→iB g m (fun j=>[L0,L1,L2,L3].getD j []) r=[.int .u8 ((N / B ^ (i - 1) / C ^ (m+4 - 1 - r) % C:Nat):Int)]:=by
 intro r hr
 have hd:=o7 N (i - 1)
 rw [show i - 1+1=i by omega] at hd
 have hd:N / B ^ (i - 1)=N / B ^ i*B+al N (i - 1):=by rw [hd,Nat.add_comm,Nat.mul_comm]
 by_cases h:r < m
 ·rw [jc h,hg r h,hd,Ug (cQ _ _) h]
 ·rw [gu (by omega),hd,Uh (by omega)]
  have:r - m=0∨r - m=1∨r - m=2∨r - m=3:=by omega
  rcases this with e | e | e | e <;> rw [e]
  ·rw [show m+4 - 1 - r=3 by omega]; exact h0
  ·rw [show m+4 - 1 - r=2 by omega]; exact h1
  ·rw [show m+4 - 1 - r=1 by omega]; exact J
  ·rw [show m+4 - 1 - r=0 by omega]; exact h3
theorem Ao {Y i d:Nat} (hY:Y < B ^ i):cL Y i d=Y+d*B ^ i:=by
 have h:=oY Y i d
 rw [ta hY (Nat.le_refl _),Nat.zero_mul,Nat.add_zero] at h
 exact h
theorem QX {x y b d b' P K Y u v:Nat} (hY:Y < P) (he:u+b*P=Y+v) (hd:x+b'*K=y+b+d) (dL:d < K):Y+d*P < P*K∧u+x*P+b'*(P*K)=Y+d*P+(v+y*P):=by
 have h1:(x+b'*K)*P=(y+b+d)*P:=by rw [hd]
 rw [Nat.add_mul,Nat.add_mul,Nat.add_mul] at h1
 have J:b'*(P*K)=b'*K*P:=by rw [Nat.mul_comm P,Nat.mul_assoc]
 have h3:(d+1)*P≤P*K:=by rw [Nat.mul_comm P]; exact Nat.mul_le_mul_right _ dL
 rw [Nat.add_mul,Nat.one_mul] at h3
 rw [J]
 exact ⟨by omega,by omega⟩
/-- One limb of a difference. -/
theorem RB {A D Y b i d b':Nat} (hY:Y < B ^ i) (he:A % B ^ i+b*B ^ i=Y+D % B ^ i) (hd:al A i+b'*B=al D i+b+d) (dL:d < B) :
  cL Y i d < B ^ (i+1)∧A % B ^ (i+1)+b'*B ^ (i+1)=cL Y i d+D % B ^ (i+1):=by
 rw [Ao hY,mod_succ A i,mod_succ D i,Nat.pow_succ]
 exact QX hY he hd dL
theorem lV {Z j d m:Nat} (hZ:Z < B ^ m) (hj:j < m) (hd:d < B):cL Z j d < B ^ m:=by
 have h1:(cL Z j d) / B ^ m=0:=by
  have e:B ^ m=B ^ j*(B*B ^ (m - j - 1)):=by
   rw [← Nat.mul_assoc,← Nat.pow_succ,← Nat.pow_add,show j+1+(m - j - 1)=m by omega]
  have ha:Z % B ^ j < B ^ j:=Nat.mod_lt _ (eh j)
  unfold cL
  rw [e,← Nat.div_div_eq_div_mul,ob ha,← Nat.div_div_eq_div_mul,ob hd,Nat.div_div_eq_div_mul,← Nat.pow_add,show j+1+(m - j - 1)=m by omega]
  exact Nat.div_eq_of_lt hZ
 rcases Nat.lt_or_ge (cL Z j d) (B ^ m) with h | h
 ·exact h
 ·have:=Nat.div_pos h (eh m)
  omega
theorem JU {Z Z' l c x d P Q K t Y v:Nat} (he:Z+c*(P*Q)=Y+x*v*P) (hs:Z'+l*(P*Q)=Z+t % K*(P*Q)) (ht:t=c+(x*d+l)) :
  Z'+t / K*(P*Q*K)=Y+x*(v+d*Q)*P:=by
 have h1:=Nat.mod_add_div t K
 have J:(t % K+K*(t / K))*(P*Q)=(c+(x*d+l))*(P*Q):=by rw [h1,ht]
 rw [Nat.add_mul,Nat.add_mul,Nat.add_mul] at J
 have e1:K*(t / K)*(P*Q)=t / K*(P*Q*K):=by
  rw [Nat.mul_comm K,Nat.mul_assoc,Nat.mul_comm K]
 have e2:x*(v+d*Q)*P=x*v*P+x*d*(P*Q):=by
  rw [Nat.mul_add,Nat.add_mul,← Nat.mul_assoc x d Q,Nat.mul_assoc (x*d),Nat.mul_comm Q P]
 rw [e1] at J
 rw [e2]
 generalize t / K*(P*Q*K)=a1 at *
 generalize t % K*(P*Q)=a2 at *
 generalize c*(P*Q)=a3 at *
 generalize x*d*(P*Q)=a4 at *
 generalize l*(P*Q)=a5 at *
 generalize x*v*P=a6 at *
 omega
theorem JV {c x d l K t:Nat} (hc:c < K) (hx:x < K) (hd:d < K) (hl:l < K) (ht:t=c+(x*d+l)):t / K < K∧t < K*K:=by
 have h1:(x+1)*(d+1)≤K*K:=Nat.mul_le_mul hx hd
 have J:t < K*K:=by
  rw [Nat.add_mul,Nat.mul_add] at h1
  by_cases hk:K=0
  ·omega
  ·have h3:x*d≤(K - 1)*(K - 1):=Nat.mul_le_mul (by omega) (by omega)
   obtain ⟨k,rfl⟩:∃ k,K=k+1:=⟨K - 1,by omega⟩
   rw [Nat.add_sub_cancel] at h3
   have e:(k+1)*(k+1)=k*k+k+k+1:=by rw [Nat.add_mul,Nat.mul_add]; omega
   omega
 exact ⟨(Nat.div_lt_iff_lt_mul (by omega)).2 J,J⟩
/-- One limb of a product. -/
theorem RC {Z c x D i k t Y:Nat} (he:Z+c*B ^ (i+k)=Y+x*(D % B ^ k)*B ^ i) (ht:t=c+(x*al D k+al Z (i+k))) :
  cL Z (i+k) (t % B)+t / B*B ^ (i+(k+1))=Y+x*(D % B ^ (k+1))*B ^ i:=by
 have hs:=oY Z (i+k) (t % B)
 rw [mod_succ D k,← Nat.add_assoc,Nat.pow_succ]
 rw [Nat.pow_add] at he hs ⊢
 exact JU he hs ht
theorem SX {A D Y Z c i n:Nat} (hY:Y=A % B ^ i*D) (hD:D < B ^ n) (hZ:Z < B ^ (i+n)) (he:Z+c*B ^ (i+n)=Y+al A i*(D % B ^ n)*B ^ i) :
  cL Z (i+n) c=A % B ^ (i+1)*D:=by
 rw [Ao hZ,he,Nat.mod_eq_of_lt hD,hY,mod_succ,Nat.add_mul,Nat.mul_assoc (al A i),Nat.mul_comm D,← Nat.mul_assoc]
theorem SY {c x d l t:Nat} (hc:c < B) (hx:x < B) (hd:d < B) (hl:l < B) (ht:t=c+(x*d+l)) :
  IntKind.u64.wrap ((c:Int)+IntKind.u64.wrap (IntKind.u64.wrap (IntKind.u64.wrap (x:Int)*IntKind.u64.wrap (d:Int))+IntKind.u64.wrap (l:Int)))=(t:Int):=by
 have hB:B=4294967296:=rfl
 have h:=(JV hc hx hd hl ht).2
 have hm:((x:Int)*(d:Int))=((x*d:Nat):Int):=by simp
 rw [bN (x:=(x:Int)) (by omega) (by omega),bN (x:=(d:Int)) (by omega) (by omega),bN (x:=(l:Int)) (by omega) (by omega),hm]
 generalize x*d=m at *
 rw [hB] at h
 rw [bN (x:=(m:Int)) (by omega) (by omega),bN (x:=(m:Int)+(l:Int)) (by omega) (by omega),bN (by omega) (by omega)]
 omega
theorem eI (t:Nat):IntKind.u32.wrap (t:Int)=((t % B:Nat):Int):=by rw [vH]; rfl
theorem jJ (t:Nat):(t:Int) / 4294967296=((t / B:Nat):Int):=rfl
end Go.Ae
/- What the functions of bigint give: contracts in terms of numbers. -/
namespace Go.Ae
open Go
def u32 (n:Nat):Value:=.int .u32 n
def i64 (n:Int):Value:=.int .i64 n
def tH:bG:={ ι:=Nat × Nat × Nat,args:=fun i=>[.int .u32 i.1,.int .u32 i.2.1,.int .u32 i.2.2],pre:=fun i=>i.1 < 4294967296∧i.2.1 < 4294967296∧i.2.2≤1,val:=fun i=>.tuple ⟨[.int .u32 ((i.1+i.2.1+i.2.2) % 4294967296:Nat),.int .u32 ((i.1+i.2.1+i.2.2) / 4294967296:Nat)]⟩ }
def kX:bG:={ ι:=Nat × Nat × Nat,args:=fun i=>[.int .u32 i.1,.int .u32 i.2.1,.int .u32 i.2.2],pre:=fun i=>i.1 < 4294967296∧i.2.1 < 4294967296∧i.2.2≤1,val:=fun i=>.tuple ⟨[.int .u32 ((i.1+2*4294967296 - i.2.1 - i.2.2) % 4294967296:Nat),.int .u32 (if i.1 < i.2.1+i.2.2 then 1 else 0:Nat)]⟩ }
def BC:bG:={ ι:=Nat × Nat × Nat,args:=fun i=>[.int .u32 i.1,.int .u32 i.2.1,.int .u32 i.2.2],pre:=fun i=>i.1 < i.2.2∧i.2.1 < 4294967296∧i.2.2 < 4294967296,val:=fun i=>.tuple ⟨[.int .u32 ((i.1*4294967296+i.2.1) / i.2.2:Nat),.int .u32 ((i.1*4294967296+i.2.1) % i.2.2:Nat)]⟩ }
def F9:bG:={ ι:=Nat,args:=fun x=>[.int .u32 x],pre:=fun x=>x < 4294967296,val:=fun x=>.int .i64 (ff x:Nat) }
def BV:bG:={ ι:=Nat,args:=fun x=>[.int .u32 x],pre:=fun x=>x < 4294967296,val:=fun x=>.int .i64 (32 - ff x:Nat) }
/-! ### bigint: strings and limbs -/
def zF:Nat:=1099511627776
def kC:bG:={ ι:=ByteArray,args:=fun s=>[.string s],pre:=fun s=>s.size≤1099511627776,val:=fun s=>.string (nb (ab s)) }
/-- A number as a slice of limbs: length, value, capacity; or nil. -/
abbrev LV:=Option (Nat × Nat × Nat)
def LV.val:LV→Value
 | none=>.slice none 0 0
 | some (n,_,c)=>.slice (some ⟨0,0,none⟩) n c
def LV.ae:LV→List ai
 | none=>[]
 | some (n,N,_)=>[.flat false n 1 (bz N)]
def LV.num:LV→Nat
 | none=>0
 | some (_,N,_)=>N
def LV.ok:LV→Prop
 | none=>True
 | some (n,N,_)=>N < 4294967296 ^ n∧n≤274877906944
def LV.cut:LV→Value
 | none=>.slice none 0 0
 | some (_,N,c)=>.slice (some ⟨0,0,none⟩) (nl N) c
def rI:aG:={ ι:=LV,args:=fun i=>[i.val],ae:=LV.ae,pre:=LV.ok,val:=LV.cut,new:=fun _=>none }
def yf:aG:={ ι:=LV,args:=fun i=>[i.val],ae:=LV.ae,pre:=LV.ok,val:=fun i=>.string (nb i.num),new:=fun _=>none }
def tV:aG:={ ι:=ByteArray,args:=fun s=>[.string s],ae:=fun _=>[],pre:=fun s=>s.size≤1099511627776,val:=fun s=>.slice (some ⟨0,0,none⟩) (nl (ab s)) aN,new:=fun s=>some (.flat false (nl (ab s)) 1 (bz (ab s))) }
def tW:aG:={ ι:=Bool × LV,args:=fun i=>[.bool i.1,i.2.val],ae:=fun i=>i.2.ae,pre:=fun i=>i.2.ok,val:=fun i=>.agg ⟨[.bool (i.1 && i.2.num != 0),.string (nb i.2.num)]⟩,new:=fun _=>none }
/-! ### bigint: arithmetic of canonical limbs -/
/-- Two canonical numbers in two blocks. -/
def two (A ca D cd:Nat):List Value:=[.slice (some ⟨0,0,none⟩) (nl A) ca,.slice (some ⟨1,0,none⟩) (nl D) cd]
def kh (A D:Nat):List ai:=[.flat false (nl A) 1 (bz A),.flat false (nl D) 1 (bz D)]
abbrev I2:=Nat × Nat × Nat × Nat
def yg (i:I2):Prop:=nl i.1≤137438953472∧nl i.2.2.1≤137438953472
def cS (A D:Nat):Int:=if A < D then -1 else if D < A then 1 else 0
def vJ:aG:={ ι:=I2,args:=fun i=>two i.1 i.2.1 i.2.2.1 i.2.2.2,ae:=fun i=>kh i.1 i.2.2.1,pre:=yg,val:=fun i=>.int .i64 (cS i.1 i.2.2.1),new:=fun _=>none }
/-- A new number. -/
def kK (id N:Nat):Value:=.slice (some ⟨id,0,none⟩) (nl N) aN
def dO (N:Nat):ai:=.flat false (nl N) 1 (bz N)
def BW:aG:={ ι:=I2,args:=fun i=>two i.1 i.2.1 i.2.2.1 i.2.2.2,ae:=fun i=>kh i.1 i.2.2.1,pre:=yg,val:=fun i=>kK 2 (i.1+i.2.2.1),new:=fun i=>some (dO (i.1+i.2.2.1)) }
def BD:aG:={ ι:=I2,args:=fun i=>two i.1 i.2.1 i.2.2.1 i.2.2.2,ae:=fun i=>kh i.1 i.2.2.1,pre:=fun i=>yg i∧i.2.2.1≤i.1,val:=fun i=>kK 2 (i.1 - i.2.2.1),new:=fun i=>some (dO (i.1 - i.2.2.1)) }
def BE:aG:={ ι:=I2,args:=fun i=>two i.1 i.2.1 i.2.2.1 i.2.2.2,ae:=fun i=>kh i.1 i.2.2.1,pre:=yg,val:=fun i=>kK 2 (i.1*i.2.2.1),new:=fun i=>some (dO (i.1*i.2.2.1)) }
end Go.Ae
/- Laws of limbs: sums and appended rows. -/
namespace Go.Ae
open Go
theorem Kr {Y c P K a d x y t:Nat} (he:Y+c*P=a+d) (ht:t=c+x+y):Y+t % K*P+t / K*(P*K)=(a+x*P)+(d+y*P):=by
 have h:=Nat.mod_add_div t K
 have e1:t*P=t % K*P+t / K*(P*K):=by
  calc t*P=(t % K+K*(t / K))*P:=by rw [h]
   _=t % K*P+t / K*(P*K):=by rw [Nat.add_mul,Nat.mul_comm K,Nat.mul_assoc,Nat.mul_comm K P]
 have e2:t*P=c*P+x*P+y*P:=by rw [ht,Nat.add_mul,Nat.add_mul]
 omega
theorem K8 {X D Y c i t:Nat} (he:Y+c*B ^ i=X % B ^ i+D % B ^ i) (ht:t=c+al X i+al D i) :
  Y+t % B*B ^ i+t / B*B ^ (i+1)=X % B ^ (i+1)+D % B ^ (i+1):=by
 rw [mod_succ X i,mod_succ D i,Nat.pow_succ]
 exact Kr he ht
theorem vp {Y d i:Nat} (hY:Y < B ^ i) (hd:d < B):Y+d*B ^ i < B ^ (i+1):=by
 have h:(d+1)*B ^ i≤B*B ^ i:=Nat.mul_le_mul_right _ hd
 rw [Nat.pow_succ,Nat.mul_comm (B ^ i) B]
 rw [Nat.add_mul] at h
 omega
/-- A row appended. -/
theorem Ui {Y d i:Nat} (hY:Y < B ^ i) (hd:d < B) {r:Nat} (hr:r < i+1):al (Y+d*B ^ i) r=if r < i then al Y r else d:=by
 rw [← Ao hY,EP hd]
 split <;> split <;> first | rfl | omega
/-- A block after an append of one limb. -/
theorem Bg {Y d i:Nat} (hY:Y < B ^ i) (hd:d < B) {g:Nat→List Value} (hg:∀ r,r < i→g r=bz Y r) :
  ∀ r,r < i+1→iB g i (fun j=>[[Value.int .u32 (d:Nat)]].getD j []) r=bz (Y+d*B ^ i) r:=by
 intro r hr
 have h:=Ui hY hd hr
 by_cases h1:r < i
 ·rw [jc h1,hg r h1]
  rw [if_pos h1] at h
  simp [bz,h]
 ·rw [gu (by omega),show r - i=0 by omega]
  rw [if_neg h1] at h
  simp [bz,h]
theorem AX {a b:Nat} (ha:a < 4611686018427387904) (hb:b < 4611686018427387904):IntKind.u64.wrap ((a:Int)+IntKind.u64.wrap (b:Int))=((a+b:Nat):Int):=by
 rw [bN (x:=(b:Int)) (by omega) (by omega),bN (by omega) (by omega)]; omega
end Go.Ae
/- Laws of limbs: division by one limb, shifts, the digit of a long division. -/
namespace Go.Ae
open Go
/-! ### Division by one limb -/
theorem Ks {A d i t:Nat} (hd:0 < d) (ht:t=A / B ^ (i+1) % d*B+al A i) :
  A / B ^ i % d=t % d∧A / B ^ i / d=A / B ^ (i+1) / d*B+t / d:=by
 have h:=o7 A i
 have J:=Nat.mod_add_div (A / B ^ (i+1)) d
 have e:A / B ^ i=t+d*(A / B ^ (i+1) / d*B):=by
  rw [h,ht]
  have:B*(A / B ^ (i+1))=B*(A / B ^ (i+1) % d)+d*(A / B ^ (i+1) / d*B):=by
   conv=>lhs; rw [← J]
   rw [Nat.mul_add,Nat.mul_comm (A / B ^ (i+1) / d) B,Nat.mul_left_comm]
  rw [this,Nat.mul_comm B (A / B ^ (i+1) % d)]
  omega
 constructor
 ·rw [e,Nat.add_mul_mod_self_left]
 ·rw [e,Nat.add_mul_div_left _ _ hd]; omega
theorem JB (K i:Nat):al (K*B ^ (i+1)) i=0:=by
 unfold al
 rw [Nat.pow_succ,Nat.mul_comm (B ^ i),← Nat.mul_assoc,Nat.mul_div_cancel _ (eh i)]
 exact Nat.mul_mod_left _ _
theorem Dg {Y i d:Nat} (h:al Y i=0):cL Y i d=Y+d*B ^ i:=by
 have:=oY Y i d
 rw [h] at this
 omega
theorem SZ {A d i t:Nat} (hd:0 < d) (ht:t=A / B ^ (i+1) % d*B+al A i):cL (A / B ^ (i+1) / d*B ^ (i+1)) i (t / d)=A / B ^ i / d*B ^ i:=by
 rw [Dg (JB _ _),(Ks hd ht).2,Nat.pow_succ,Nat.add_mul,Nat.mul_assoc,Nat.mul_comm B]
theorem Uj {A d i t:Nat} (hd:0 < d) (ht:t=A / B ^ (i+1) % d*B+al A i):t / d < B:=by
 have h1:=Nat.mod_lt (A / B ^ (i+1)) hd
 have J:=cQ A i
 refine (Nat.div_lt_iff_lt_mul hd).2 ?_
 have h3:(A / B ^ (i+1) % d+1)*B≤d*B:=Nat.mul_le_mul_right _ h1
 rw [Nat.mul_comm d B] at h3
 rw [Nat.add_mul] at h3
 omega
/-! ### Shifts -/
theorem vK {s:Nat} (h:s≤31):2 ^ s≤2147483648:=Nat.le_trans (Nat.pow_le_pow_right (by decide) h) (by decide:2 ^ 31≤2147483648)
theorem VI {s l:Nat} (hs:s≤31) (hl:l < B):IntKind.u64.wrap ((l:Int)*2 ^ min s IntKind.u64.bits)=((l*2 ^ s:Nat):Int):=by
 have h:=vK hs
 have e:min s IntKind.u64.bits=s:=by show min s 64=s; omega
 rw [e]
 have J:l*2 ^ s≤4294967296*2147483648:=Nat.mul_le_mul (Nat.le_of_lt hl) h
 have:((l*2 ^ s:Nat):Int)=(l:Int)*2 ^ s:=by simp
 rw [← this,bN (by omega) (by omega)]
theorem MA {s l:Nat} (hs:s≤31):(l:Int).fdiv (2 ^ min s IntKind.u64.bits)=((l / 2 ^ s:Nat):Int):=by
 have e:min s IntKind.u64.bits=s:=by show min s 64=s; omega
 rw [e,rH]
 simp
theorem Yp {u l s:Nat} (hs:s≤31) (hu:u < 2 ^ s):IntKind.u32.wrap ((BitVec.ofInt IntKind.u32.bits (u:Int) ||| BitVec.ofInt IntKind.u32.bits ((l*2 ^ s % B:Nat):Int)).toNat:Int)=((u+l*2 ^ s % B:Nat):Int):=by
 have h:=vK hs
 have hv:l*2 ^ s % B < 4294967296:=Nat.mod_lt _ (by decide)
 have e:l*2 ^ s % B=(l % 2 ^ (32 - s))*2 ^ s:=by
  have:B=2 ^ (32 - s)*2 ^ s:=by rw [← Nat.pow_add,show 32 - s+s=32 by omega]
  rw [this,Nat.mul_mod_mul_right]
 have key:IntKind.u32.wrap ((BitVec.ofInt 32 (u:Int) ||| BitVec.ofInt 32 ((l*2 ^ s % B:Nat):Int)).toNat:Int)=((u+l*2 ^ s % B:Nat):Int):=by
  rw [Eo,BitVec.toNat_or,toNat_ofInt32 _ (by omega),toNat_ofInt32 _ hv,e,F8 _ _ _ hu]
 exact key
theorem NU {u l s:Nat} (hs:s≤31) (hu:u < 2 ^ s):u+l*2 ^ s % B < B:=by
 have h:=vK hs
 have hv:l*2 ^ s % B < 2 ^ 32:=Nat.mod_lt _ (by decide)
 have e:l*2 ^ s % B=(l % 2 ^ (32 - s))*2 ^ s:=by
  have:B=2 ^ (32 - s)*2 ^ s:=by rw [← Nat.pow_add,show 32 - s+s=32 by omega]
  rw [this,Nat.mul_mod_mul_right]
 rw [e] at hv ⊢
 rw [← F8 _ _ _ hu]
 exact Nat.or_lt_two_pow (n:=32) (Nat.lt_of_lt_of_le hu (by omega)) hv
theorem Kt {A s i:Nat}:al (A % B ^ i*2 ^ s) i < 2 ^ s:=by
 refine Nat.lt_of_le_of_lt (Nat.mod_le _ _) ?_
 refine (Nat.div_lt_iff_lt_mul (eh i)).2 ?_
 rw [Nat.mul_comm]
 exact Nat.mul_lt_mul_of_pos_left (Nat.mod_lt _ (eh i)) (Nat.pow_pos (by decide))
theorem Uk {A s i:Nat} (hs:s≤31):A % B ^ i*2 ^ s < B ^ (i+1):=by
 have h:=vK hs
 rw [Nat.pow_succ]
 exact Nat.mul_lt_mul_of_lt_of_le (Nat.mod_lt _ (eh i)) (by show _≤4294967296; omega) (by decide)
theorem RD {A s i:Nat} (hs:s≤31):cL (cL (A % B ^ i*2 ^ s) i (al (A % B ^ i*2 ^ s) i+al A i*2 ^ s % B)) (i+1) (al A i*2 ^ s / B)=A % B ^ (i+1)*2 ^ s:=by
 have ak:=Uk (A:=A) (i:=i) hs
 have Ix:=NU (l:=al A i) hs (Kt (A:=A) (s:=s) (i:=i))
 have h1:=oY (A % B ^ i*2 ^ s) i (al (A % B ^ i*2 ^ s) i+al A i*2 ^ s % B)
 rw [Nat.add_mul] at h1
 have e1:cL (A % B ^ i*2 ^ s) i (al (A % B ^ i*2 ^ s) i+al A i*2 ^ s % B)=A % B ^ i*2 ^ s+al A i*2 ^ s % B*B ^ i:=by omega
 have J:al (cL (A % B ^ i*2 ^ s) i (al (A % B ^ i*2 ^ s) i+al A i*2 ^ s % B)) (i+1)=0:=by
  rw [EP Ix,if_neg (by omega)]
  exact ta ak (Nat.le_refl _)
 rw [Dg J,e1,mod_succ,Nat.add_mul,Nat.pow_succ]
 have h3:=Nat.mod_add_div (al A i*2 ^ s) B
 have h4:al A i*B ^ i*2 ^ s=(al A i*2 ^ s % B+B*(al A i*2 ^ s / B))*B ^ i:=by rw [h3,Nat.mul_right_comm]
 rw [h4,Nat.add_mul,Nat.add_assoc]
 congr 1
 rw [Nat.mul_comm (B ^ i) B,← Nat.mul_assoc,Nat.mul_comm B (al A i*2 ^ s / B)]
/-- A limb of a number shifted down. -/
theorem Qv {A s i:Nat} (hs:s≤31):al (A / 2 ^ s) i=(al A i+al A (i+1)*B) / 2 ^ s % B:=by
 obtain ⟨w,hw⟩:∃ w,w=al A i+al A (i+1)*B:=⟨_,rfl⟩
 have e:A / B ^ i=w+(B*B)*(A / B ^ (i+1+1)):=by
  rw [o7 A i,o7 A (i+1),Nat.mul_add,Nat.mul_comm B (al A (i+1)),Nat.mul_assoc,hw,← Nat.add_assoc]
 rw [← hw]
 show A / 2 ^ s / B ^ i % B=_
 rw [Nat.div_div_eq_div_mul,Nat.mul_comm (2 ^ s),← Nat.div_div_eq_div_mul,e]
 have hB:B=2 ^ s*2 ^ (32 - s):=by rw [← Nat.pow_add,show s+(32 - s)=32 by omega]
 have:B*B*(A / B ^ (i+1+1))=2 ^ s*(B*(2 ^ (32 - s)*(A / B ^ (i+1+1)))):=by
  conv=>lhs; rw [Nat.mul_assoc]; lhs; rw [hB]
  rw [Nat.mul_assoc,Nat.mul_left_comm (2 ^ (32 - s)) B]
 rw [this,Nat.add_mul_div_left _ _ (Nat.pow_pos (by decide)),Nat.add_mul_mod_self_left]
theorem Ul {x y:Nat} (hx:x < 4294967296) (hy:y < 4294967296):IntKind.u64.wrap ((BitVec.ofInt IntKind.u64.bits (y:Int) ||| BitVec.ofInt IntKind.u64.bits ((x:Int)*4294967296)).toNat:Int)=((y+x*B:Nat):Int):=by
 rw [BitVec.or_comm,dC x y hx hy]
 show _=(((y+x*4294967296:Nat)):Int)
 omega
/-! ### The digit of a long division -/
theorem S0 {W D P q:Nat} (hD:0 < D) (hP:0 < P) (h:W / P < q*(D / P)):W / D < q:=by
 refine (Nat.div_lt_iff_lt_mul hD).2 ?_
 have h1:W < (W / P+1)*P:=by
  rw [Nat.mul_comm]; exact Nat.lt_mul_div_succ W hP
 have J:(W / P+1)*P≤q*(D / P)*P:=Nat.mul_le_mul_right _ h
 have h3:q*(D / P)*P≤q*D:=by
  rw [Nat.mul_assoc]; exact Nat.mul_le_mul_left _ (Nat.div_mul_le_self _ _)
 omega
theorem RE {W D P q K:Nat} (hP:0 < P) (h:q*(D / P)≤W / P) (hq:q≤K) (hK:K*P≤D):q≤W / D+1:=by
 rcases Nat.eq_zero_or_pos q with h0 | h0
 ·rw [h0]; exact Nat.zero_le _
 by_cases hD:D=0
 ·have hK0:K*P=0:=by omega
  rcases Nat.mul_eq_zero.1 hK0 with h | h <;> omega
 have h1:D < (D / P+1)*P:=by
  rw [Nat.mul_comm]; exact Nat.lt_mul_div_succ D hP
 have J:q*D < q*((D / P+1)*P):=Nat.mul_lt_mul_of_pos_left h1 h0
 have e2:q*((D / P+1)*P)=q*(D / P)*P+q*P:=by rw [Nat.add_mul,Nat.mul_add,Nat.one_mul,Nat.mul_assoc]
 have h3:q*(D / P)*P≤W / P*P:=Nat.mul_le_mul_right _ h
 have h4:W / P*P≤W:=Nat.div_mul_le_self _ _
 have h5:q*P≤K*P:=Nat.mul_le_mul_right _ hq
 have h6:q*D < W+D:=by omega
 have h7:(q - 1)*D≤W:=by
  rw [Nat.sub_mul,Nat.one_mul]; omega
 have:=(Nat.le_div_iff_mul_le (by omega:0 < D)).2 h7
 omega
/-- The window of the dividend. -/
theorem ES (X j k:Nat):al (X / B ^ j) k=al X (j+k):=by
 unfold al
 rw [Nat.div_div_eq_div_mul,← Nat.pow_add]
theorem x5 {W k:Nat} (h:W < B ^ (k+1)):al W k=W / B ^ k:=by
 unfold al
 refine Nat.mod_eq_of_lt ((Nat.div_lt_iff_lt_mul (eh k)).2 ?_)
 rw [Nat.mul_comm,← Nat.pow_succ]; exact h
/-- The first two limbs, and the first three. -/
theorem acq {W k:Nat} (h:W < B ^ (k+2)):W / B ^ k=al W (k+1)*B+al W k:=by
 rw [o7 W k,← x5 h,Nat.mul_comm,Nat.add_comm]
theorem LJ {q d1 d0 r w0 K top:Nat} (he:q*d1+r=top):(q*(d1*K+d0)≤top*K+w0↔q*d0≤r*K+w0):=by
 have e:top*K=q*(d1*K)+r*K:=by rw [← he,Nat.add_mul,Nat.mul_assoc]
 rw [Nat.mul_add,e]
 omega
/-- The product is taken away, limb by limb. -/
theorem Ku {Z Z' v P l d t low c' c b b' x q X v' K:Nat} (he:Z+v=X+(b+c)*P) (hs:Z'+l*P=Z+d*P) (ht:t=c+q*x) (qC:t=low+K*c') (hd:l+b'*K=low+b+d) (hv:v'=v+q*x*P) :
  Z'+v'=X+(b'+c')*(P*K):=by
 have e1:t*P=c*P+q*x*P:=by rw [ht,Nat.add_mul]
 have e2:t*P=low*P+c'*(P*K):=by rw [qC,Nat.add_mul,Nat.mul_comm K,Nat.mul_assoc,Nat.mul_comm K P]
 have e3:l*P+b'*(P*K)=low*P+b*P+d*P:=by
  have:=congrArg (·*P) hd
  simp only [Nat.add_mul] at this
  rw [Nat.mul_assoc b' K P,Nat.mul_comm K P] at this
  exact this
 rw [Nat.add_mul] at he ⊢
 omega
theorem AH {X Z D q c b b' i j t d:Nat} (he:Z+q*(D % B ^ i)*B ^ j=X+(b+c)*B ^ (j+i)) (ht:t=c+q*al D i) (hd:al Z (j+i)+b'*B=t % B+b+d) :
  cL Z (j+i) d+q*(D % B ^ (i+1))*B ^ j=X+(b'+t / B)*B ^ (j+(i+1)):=by
 have ep:B ^ (j+(i+1))=B ^ (j+i)*B:=rfl
 rw [ep]
 refine Ku he (oY Z (j+i) d) ht (Nat.mod_add_div t B).symm hd ?_
 rw [mod_succ,Nat.mul_add,Nat.add_mul,Nat.pow_add,← Nat.mul_assoc q (al D i),Nat.mul_comm (B ^ j) (B ^ i),Nat.mul_assoc (q*al D i)]
theorem AI {X Z D q c b b' n j d:Nat} (hD:D < B ^ n) (hc:c < B) (he:Z+q*(D % B ^ n)*B ^ j=X+(b+c)*B ^ (j+n)) (hd:al Z (j+n)+b'*B=c+b+d) :
  cL Z (j+n) d+q*(D*B ^ j)=X+b'*B ^ (j+n+1):=by
 rw [Nat.mod_eq_of_lt hD] at he
 have:=Ku (K:=B) (x:=0) (t:=c) (c':=0) (low:=c) (q:=q) (v':=q*D*B ^ j) he (oY Z (j+n) d) (by omega) (by omega) hd (by omega)
 rw [← Nat.mul_assoc,this,Nat.pow_succ]
 rfl
/-- The divisor is given back, limb by limb. -/
theorem RF {Z Z' v P l c x t Y v' K:Nat} (he:Z+c*P=Y+v) (hs:Z'+l*P=Z+t % K*P) (ht:t=l+x+c) (hv:v'=v+x*P):Z'+t / K*(P*K)=Y+v':=by
 have h:=Nat.mod_add_div t K
 have e1:t*P=t % K*P+t / K*(P*K):=by
  calc t*P=(t % K+K*(t / K))*P:=by rw [h]
   _=t % K*P+t / K*(P*K):=by rw [Nat.add_mul,Nat.mul_comm K,Nat.mul_assoc,Nat.mul_comm K P]
 have e2:t*P=l*P+x*P+c*P:=by rw [ht,Nat.add_mul,Nat.add_mul]
 omega
theorem AJ {Y Z D c i j t:Nat} (he:Z+c*B ^ (j+i)=Y+D % B ^ i*B ^ j) (ht:t=al Z (j+i)+al D i+c) :
  cL Z (j+i) (t % B)+t / B*B ^ (j+(i+1))=Y+D % B ^ (i+1)*B ^ j:=by
 have ep:B ^ (j+(i+1))=B ^ (j+i)*B:=rfl
 rw [ep]
 refine RF he (oY Z (j+i) (t % B)) ht ?_
 rw [mod_succ,Nat.add_mul,Nat.pow_add,Nat.mul_comm (B ^ j),Nat.mul_assoc]
/-- No borrow is left: the estimate was right. -/
theorem Ap {X Z E q:Nat} (hE:0 < E) (h:Z+q*E=X) (hq:X / E≤q):q=X / E∧Z=X % E:=by
 have h1:q≤X / E:=(Nat.le_div_iff_mul_le hE).2 (by omega)
 have J:q=X / E:=by omega
 refine ⟨J,?_⟩
 have:=Nat.mod_add_div X E
 rw [J,Nat.mul_comm] at h
 omega
/-- A borrow is left: the estimate was one too large. -/
theorem Aq {X Z E q M:Nat} (hE:0 < E) (h:Z+q*E=X+M) (hZ:Z < M) (hq:q≤X / E+1):q=X / E+1∧Z+E=X % E+M:=by
 have h1:X < q*E:=by omega
 have J:X / E < q:=(Nat.div_lt_iff_lt_mul hE).2 h1
 have h3:q=X / E+1:=by omega
 refine ⟨h3,?_⟩
 have:=Nat.mod_add_div X E
 rw [h3,Nat.add_mul,Nat.one_mul,Nat.mul_comm] at h
 omega
theorem AK {V R c k:Nat} (hV:V < B ^ (k+1)) (hR:R < B ^ k) (hc:c≤1) (h:V+c*B ^ k=R+B ^ (k+1)):cL V k ((al V k+c) % B)=R:=by
 have uQ:c=1:=by
  rcases Nat.eq_zero_or_pos c with h0 | h0
  ·subst h0; omega
  ·omega
 subst uQ
 have e:V=R+(B - 1)*B ^ k:=by
  rw [Nat.pow_succ,Nat.mul_comm (B ^ k) B] at h
  rw [Nat.sub_mul]
  have:1*B ^ k≤B*B ^ k:=Nat.mul_le_mul_right _ (by decide)
  omega
 have e2:al V k=B - 1:=by
  rw [x5 hV,e,Nat.add_mul_div_right _ _ (eh k),Nat.div_eq_of_lt hR,Nat.zero_add]
 have J:=oY V k ((al V k+1) % B)
 have e3:(B - 1+1) % B=0:=by decide
 rw [e2,e3] at J
 rw [e2,e3]
 omega
theorem QY {X D j n n1 n2:Nat} (J:n2=nl D) (h0:n2=n+2) (h1:n1=n+1) (hd:2147483648≤al D n1) (hX:X < D*B ^ (j+1)) :
  X / B ^ j / B ^ n=(al X (j+n2)*B+al X (j+n1))*B+al X (j+n)∧D / B ^ n=al D n1*B+al D n∧X / B ^ j / D < B∧B*B ^ n≤D ∧
  X / B ^ j / D≤(al X (j+n2)*B+al X (j+n1)) / al D n1∧(al X (j+n2)*B+al X (j+n1)) / al D n1≤B+1∧X < B ^ (j+n2+1):=by
 subst h1
 have hD:D < B ^ (n+2):=by have:=b9 D; rw [← J,h0] at this; exact this
 have CW:=x5 (W:=D) (k:=n+1) hD
 have zG:0 < D:=by
  rcases Nat.eq_zero_or_pos D with h | h
  ·subst h; rw [Ee] at hd; omega
  ·exact h
 have hW:X / B ^ j < D*B:=by
  refine (Nat.div_lt_iff_lt_mul (eh j)).2 ?_
  rw [Nat.mul_assoc,Nat.mul_comm B,← Nat.pow_succ]; exact hX
 have hW3:X / B ^ j < B ^ (n+1+2):=by
  have e:B ^ (n+1+2)=B ^ (n+2)*B:=rfl
  rw [e]
  exact Nat.lt_of_lt_of_le hW (Nat.mul_le_mul_right _ (Nat.le_of_lt hD))
 have ht:=acq hW3
 rw [ES,ES] at ht
 have qC:X / B ^ j / B ^ (n+1)=al X (j+n2)*B+al X (j+(n+1)):=by rw [h0]; exact ht
 obtain ⟨top,uk⟩:∃ top,top=al X (j+n2)*B+al X (j+(n+1)):=⟨_,rfl⟩
 rw [← uk] at qC ⊢
 have hw:=o7 (X / B ^ j) n
 rw [qC,ES] at hw
 have dj:=o7 D n
 rw [← CW] at dj
 obtain ⟨W,hWd⟩:∃ W,W=X / B ^ j:=⟨_,rfl⟩
 obtain ⟨d1,gj⟩:∃ d1,d1=al D (n+1):=⟨_,rfl⟩
 rw [← hWd] at hw qC hW ⊢
 rw [← gj] at dj hd CW ⊢
 have zj:d1*B ^ (n+1)≤D:=by rw [CW]; exact Nat.div_mul_le_self _ _
 have dJ:D < (d1+1)*B ^ (n+1):=by rw [CW,Nat.mul_comm]; exact Nat.lt_mul_div_succ _ (eh _)
 refine ⟨?_,?_,?_,?_,?_,?_,?_⟩
 ·rw [hw,Nat.mul_comm B top,Nat.add_comm]
 ·rw [dj,Nat.mul_comm B d1,Nat.add_comm]
 ·exact (Nat.div_lt_iff_lt_mul zG).2 (by rw [Nat.mul_comm]; exact hW)
 ·have e:B*B ^ n=1*B ^ (n+1):=by rw [Nat.pow_succ,Nat.mul_comm,Nat.one_mul]
  rw [e]
  exact Nat.le_trans (Nat.mul_le_mul_right _ (by omega)) zj
 ·refine (Nat.le_div_iff_mul_le (by omega)).2 ?_
  rw [← qC]
  refine (Nat.le_div_iff_mul_le (eh _)).2 ?_
  rw [Nat.mul_assoc]
  exact Nat.le_trans (Nat.mul_le_mul_left _ zj) (Nat.div_mul_le_self _ _)
 ·have h5:top < (d1+1)*B:=by
   rw [← qC]
   refine (Nat.div_lt_iff_lt_mul (eh _)).2 ?_
   have:D*B≤(d1+1)*B ^ (n+1)*B:=Nat.mul_le_mul_right _ (Nat.le_of_lt dJ)
   rw [Nat.mul_right_comm] at this
   exact Nat.lt_of_lt_of_le hW this
  have h6:top / d1 < B+2:=by
   refine (Nat.div_lt_iff_lt_mul (by omega)).2 ?_
   rw [Nat.add_mul,Nat.mul_comm B d1]
   rw [Nat.add_mul] at h5
   have:B=4294967296:=rfl
   omega
  omega
 ·have e:B ^ (j+n2+1)=B ^ (n+2)*B ^ (j+1):=by rw [← Nat.pow_add]; congr 1; omega
  rw [e]
  exact Nat.lt_of_lt_of_le hX (Nat.mul_le_mul_right _ (Nat.le_of_lt hD))
/-- What is known of a digit: kept from omega's eyes. -/
structure Yq (X D j n n2 top d1 d0 w0 Q q0:Nat):Prop where
 fW:X / B ^ j / B ^ n=top*B+w0
 fD:D / B ^ n=d1*B+d0
 fQ:Q=X / B ^ j / D
 fB:Q < 4294967296
 fP:B*B ^ n≤D
 fq:Q≤q0
 Pv:q0≤4294967297
 fX:X < B ^ (j+n2+1)
 zH:0 < D
theorem Yr {X D j n n1 n2 top d1 d0 w0 Q q0:Nat} (J:n2=nl D) (h0:n2=n+2) (h1:n1=n+1) (hd:2147483648≤al D n1) (hX:X < D*B ^ (j+1))
  (ht:top=al X (j+n2)*4294967296+al X (j+n1)) (gj:d1=al D n1) (fF:d0=al D n) (hw:w0=al X (j+n)) (hQ:Q=X / B ^ j / D) (uT:q0=top / d1):Yq X D j n n2 top d1 d0 w0 Q q0:=by
 have zG:0 < D:=by
  rcases Nat.eq_zero_or_pos D with h | h
  ·rw [h,Ee] at hd; omega
  ·exact h
 subst ht gj fF hw hQ uT
 obtain ⟨a,b,c,d,e,f,g⟩:=QY J h0 h1 hd hX
 exact ⟨a,b,rfl,c,d,e,f,g,zG⟩
/-- The loop over the estimate: one less. -/
theorem Um {W D P d1 d0 q r w0 top:Nat} (hD:0 < D) (hP:0 < P) (hW:W / P=top*B+w0) (Iy:D / P=d1*B+d0) (he:q*d1+r=top) (h:r*B+w0 < q*d0):W / D < q:=by
 refine S0 hD hP ?_
 rw [hW,Iy]
 exact Nat.lt_of_not_le fun hle=>Nat.not_le_of_lt h ((LJ he).1 hle)
/-- The loop ends. -/
theorem FB {W D P d1 d0 q r w0 top:Nat} (hP:0 < P) (hW:W / P=top*B+w0) (Iy:D / P=d1*B+d0) (he:q*d1+r=top) (hq:q < B) (hK:B*P≤D) (fF:d0 < B) (h:B≤r∨q*d0≤r*B+w0):q≤W / D+1:=by
 refine RE hP ?_ (Nat.le_of_lt hq) hK
 rw [hW,Iy]
 refine (LJ he).2 ?_
 rcases h with h | h
 ·have h1:q*d0≤B*B:=Nat.mul_le_mul (Nat.le_of_lt hq) (Nat.le_of_lt fF)
  have J:B*B≤r*B:=Nat.mul_le_mul_right _ h
  omega
 ·exact h
theorem EU (a b:Nat):Int.tdiv (a:Int) (b:Int)=((a / b:Nat):Int):=rfl
theorem LK (a b:Nat):Int.tmod (a:Int) (b:Int)=((a % b:Nat):Int):=rfl
theorem aaT {q x:Nat} (hq:q≤4294967297) (hx:x < 4294967296):IntKind.u64.wrap ((q:Int)*(x:Int))=((q*x:Nat):Int)∧q*x < 18446744073709551616:=by
 have h:=Nat.mul_le_mul hq (show x≤4294967295 by omega)
 have e:((q:Int)*(x:Int))=((q*x:Nat):Int):=by simp
 obtain ⟨p,hp⟩:∃ p,p=q*x:=⟨_,rfl⟩
 rw [e,← hp]
 rw [← hp] at h
 exact ⟨bN (by omega) (by omega),by omega⟩
theorem AY {c q x t:Nat} (hc:c < B) (hq:q < B) (hx:x < B) (ht:t=c+q*x):IntKind.u64.wrap ((c:Int)+IntKind.u64.wrap ((q:Int)*(x:Int)))=(t:Int)∧t / B < B:=by
 have hB:B=4294967296:=rfl
 have h:=Nat.mul_le_mul (show q≤4294967295 by omega) (show x≤4294967295 by omega)
 have e:((q:Int)*(x:Int))=((q*x:Nat):Int):=by simp
 obtain ⟨p,hp⟩:∃ p,p=q*x:=⟨_,rfl⟩
 rw [e,← hp]
 rw [← hp] at h ht
 constructor
 ·rw [bN (x:=(p:Int)) (by omega) (by omega),bN (by omega) (by omega),ht]; omega
 ·refine (Nat.div_lt_iff_lt_mul (by decide)).2 ?_
  rw [hB,ht]; omega
end Go.Ae
/- Contracts of bigint's division, in terms of numbers. -/
namespace Go.Ae
open Go
def one (A ca:Nat):Value:=.slice (some ⟨0,0,none⟩) (nl A) ca
abbrev I1:=Nat × Nat × Nat
def BF:aG:={ ι:=I1,args:=fun i=>[one i.1 i.2.1,.int .u32 i.2.2],ae:=fun i=>[dO i.1],pre:=fun i=>nl i.1≤137438953472∧0 < i.2.2∧i.2.2 < 4294967296,val:=fun i=>.tuple ⟨[kK 1 (i.1 / i.2.2),.int .u32 (i.1 % i.2.2:Nat)]⟩,new:=fun i=>some (.flat true (nl i.1) 1 (bz (i.1 / i.2.2))) }
def BG:aG:={ ι:=I1,args:=fun i=>[one i.1 i.2.1,.int .i64 i.2.2],ae:=fun i=>[dO i.1],pre:=fun i=>nl i.1≤137438953472∧i.2.2≤31,val:=fun i=>.slice (some ⟨1,0,none⟩) (nl i.1+1) (nl i.1+1),new:=fun i=>some (.flat true (nl i.1+1) 1 (bz (i.1*2 ^ i.2.2))) }
def AZ:aG:={ ι:=I1,args:=fun i=>[one i.1 i.2.1,.int .i64 i.2.2],ae:=fun i=>[dO i.1],pre:=fun i=>nl i.1≤137438953472∧i.2.2≤31,val:=fun i=>kK 1 (i.1 / 2 ^ i.2.2),new:=fun i=>some (.flat true (nl i.1) 1 (bz (i.1 / 2 ^ i.2.2))) }
/-- One digit of a long division: the dividend's window is changed in its place. -/
structure DI where
 (X m cx D cd j:Nat)
def wi:yE:={ ι:=DI,args:=fun i=>[.slice (some ⟨0,0,none⟩) i.m i.cx,.slice (some ⟨1,0,none⟩) (nl i.D) i.cd,.int .i64 i.j],ae:=fun i=>[.flat true i.m 1 (bz i.X),dO i.D],pre:=fun i=>i.m≤137438953473∧2≤nl i.D∧2147483648≤al i.D (nl i.D - 1)∧i.j+nl i.D < i.m∧i.X < i.D*B ^ (i.j+1),val:=fun i=>.int .u32 (i.X / (i.D*B ^ i.j):Nat),post:=fun i=>[.flat true i.m 1 (bz (i.X % (i.D*B ^ i.j))),dO i.D],new:=fun _=>[] }
theorem qR {i:DI} {N q:Nat} {H:ax} (h1:N=i.X % (i.D*B ^ i.j)) (J:q=i.X / (i.D*B ^ i.j)) (hH:H[0]?=some (some (.flat true i.m 1 (bz N)))):yT wi i (.int .u32 (q:Nat)) H:=by
 refine ⟨[],List.nodup_nil,by simp,rfl,fun j b q' hb hq ho=>?_,by simp,_,rfl,by subst J; exact .refl _⟩
 match j with
 | 0 =>
  simp [wi] at hb hq
  subst hq
  exact ⟨_,hH,rfl,by rw [h1]; exact ⟨fun _=>⟨rfl,rfl⟩,rfl,Nat.le_refl _,fun _ _=>rfl,fun r hr v hv=>dG (l:=bz _ r) rfl v hv⟩⟩
 | 1 =>
  simp [wi] at hb
  subst hb
  cases ho
 | j+2=>simp [wi] at hb
def gE:yE:={ ι:=I2,args:=fun i=>two i.1 i.2.1 i.2.2.1 i.2.2.2,ae:=fun i=>kh i.1 i.2.2.1,pre:=fun i=>yg i∧i.2.2.1≠0,val:=fun i=>if i.1 < i.2.2.1 then .tuple ⟨[.slice none 0 0,one i.1 i.2.1]⟩ else .tuple ⟨[kK 2 (i.1 / i.2.2.1),kK 3 (i.1 % i.2.2.1)]⟩,post:=fun i=>kh i.1 i.2.2.1,new:=fun i=>if i.1 < i.2.2.1 then [] else [dO (i.1 / i.2.2.1),dO (i.1 % i.2.2.1)] }
end Go.Ae
/- Laws of limbs: the long division as a whole. -/
namespace Go.Ae
open Go
/-- The divisor, shifted so that its top limb is at least half the base. -/
theorem RG {D n s:Nat} (hn:nl D=n+1) (hs:s=32 - ff (al D n)) :
  s≤31∧al D n≠0∧nl (D*2 ^ s)=n+1∧2147483648≤al (D*2 ^ s) n∧2147483648*B ^ n≤D*2 ^ s:=by
 have zG:D≠0:=by intro h; rw [h,rh] at hn; omega
 have uk:al D n≠0:=by have:=Ua zG; rw [hn] at this; exact this
 obtain ⟨x,hx⟩:∃ x,x=al D n:=⟨_,rfl⟩
 rw [← hx] at hs uk ⊢
 have iu:x < 4294967296:=by rw [hx]; exact cQ D n
 have hb:=LI iu
 have zj:1≤ff x:=by
  rcases Nat.eq_zero_or_pos (ff x) with h | h
  ·have:=FA x; rw [h] at this; omega
  ·exact h
 have ak:=b9 D
 rw [hn] at ak
 have Pw:x=D / B ^ n:=by rw [hx]; exact x5 ak
 have h1:=Jh uk
 have J:=FA x
 have e:2 ^ (ff x)*2 ^ s=4294967296:=by rw [← Nat.pow_add,show ff x+s=32 by omega]
 have e2:2 ^ (ff x - 1)*2 ^ s=2147483648:=by rw [← Nat.pow_add,show ff x - 1+s=31 by omega]
 have gZ:2147483648*B ^ n≤D*2 ^ s:=by
  rw [← e2,Nat.mul_right_comm]
  refine Nat.mul_le_mul_right _ ?_
  refine Nat.le_trans (Nat.mul_le_mul_right _ h1) ?_
  rw [Pw]; exact Nat.div_mul_le_self _ _
 have ju:D*2 ^ s < B ^ (n+1):=by
  have h3:D < (x+1)*B ^ n:=by rw [Pw,Nat.mul_comm]; exact Nat.lt_mul_div_succ _ (eh n)
  have h4:D*2 ^ s < (x+1)*B ^ n*2 ^ s:=Nat.mul_lt_mul_of_pos_right h3 (Nat.pow_pos (by decide))
  have h5:(x+1)*B ^ n*2 ^ s≤2 ^ ff x*B ^ n*2 ^ s:=Nat.mul_le_mul_right _ (Nat.mul_le_mul_right _ J)
  rw [Nat.mul_right_comm (2 ^ ff x),e] at h5
  have e3:B ^ (n+1)=4294967296*B ^ n:=by rw [Nat.pow_succ,Nat.mul_comm]
  rw [e3]
  exact Nat.lt_of_lt_of_le h4 h5
 have cl:nl (D*2 ^ s)=n+1:=by
  refine Nh ju (.inr ?_)
  rw [Nat.add_sub_cancel]
  refine Nat.le_trans ?_ gZ
  exact Nat.le_mul_of_pos_left _ (by decide)
 refine ⟨by omega,uk,cl,?_,gZ⟩
 rw [x5 ju]
 exact (Nat.le_div_iff_mul_le (eh n)).2 gZ
theorem QZ {A s:Nat} (hs:s≤31):A*2 ^ s < B ^ (nl A)*2147483648:=by
 have h:=vK hs
 exact Nat.mul_lt_mul_of_lt_of_le (b9 A) h (by decide)
/-- The dividend before the first digit. -/
theorem S3 {A E n s k:Nat} (hs:s≤31) (gZ:2147483648*B ^ n≤E) (hk:k=nl A - n) (hle:n≤nl A):A*2 ^ s < E*B ^ k:=by
 refine Nat.lt_of_lt_of_le (QZ hs) ?_
 have e:B ^ nl A*2147483648=2147483648*B ^ n*B ^ k:=by
  rw [Nat.mul_assoc,← Nat.pow_add,show n+k=nl A by omega,Nat.mul_comm]
 rw [e]
 exact Nat.mul_le_mul_right _ gZ
/-- One digit more. -/
theorem S4 {V E Q U i:Nat} (hE:0 < E) (h:Q*E+U=V) (hU:U < E*B ^ (i+1)) (hQ:Q % B ^ (i+1)=0) :
  U / (E*B ^ i) < B∧cL Q i (U / (E*B ^ i))*E+U % (E*B ^ i)=V∧U % (E*B ^ i) < E*B ^ i∧cL Q i (U / (E*B ^ i)) % B ^ i=0:=by
 have hP:0 < E*B ^ i:=Nat.mul_pos hE (eh i)
 have hd:U / (E*B ^ i) < B:=by
  refine (Nat.div_lt_iff_lt_mul hP).2 ?_
  rw [Nat.mul_comm,Nat.mul_assoc,← Nat.pow_succ]; exact hU
 obtain ⟨K,hK⟩:∃ K,Q=K*B ^ (i+1):=⟨Q / B ^ (i+1),by rw [Nat.mul_comm]; have:=Nat.mod_add_div Q (B ^ (i+1)); rw [hQ,Nat.zero_add] at this; exact this.symm⟩
 have hl:al Q i=0:=by rw [hK]; exact JB K i
 rw [Dg hl]
 refine ⟨hd,?_,Nat.mod_lt _ hP,?_⟩
 ·rw [Nat.add_mul,← h,Nat.add_assoc]
  congr 1
  rw [Nat.mul_assoc,Nat.mul_comm (B ^ i) E,Nat.mul_comm]
  exact Nat.div_add_mod U (E*B ^ i)
 ·rw [hK,Nat.pow_succ,Nat.mul_comm (B ^ i) B,← Nat.mul_assoc,← Nat.add_mul]
  exact Nat.mul_mod_left _ _
/-- The digits are all there. -/
theorem Un {A D s Q U:Nat} (hD:0 < D) (h:Q*(D*2 ^ s)+U=A*2 ^ s) (hU:U < D*2 ^ s):Q=A / D∧U=A % D*2 ^ s∧U / 2 ^ s=A % D:=by
 have hs:0 < 2 ^ s:=Nat.pow_pos (by decide)
 have hE:0 < D*2 ^ s:=Nat.mul_pos hD hs
 have h1:A*2 ^ s / (D*2 ^ s)=Q:=by
  rw [← h,Nat.mul_comm Q]
  rw [Nat.mul_add_div hE,Nat.div_eq_of_lt hU,Nat.add_zero]
 have J:A*2 ^ s % (D*2 ^ s)=U:=by
  rw [← h,Nat.mul_comm Q,Nat.mul_add_mod,Nat.mod_eq_of_lt hU]
 rw [Nat.mul_div_mul_right _ _ hs] at h1
 rw [Nat.mul_mod_mul_right] at J
 refine ⟨h1.symm,J.symm,?_⟩
 rw [← J,Nat.mul_div_cancel _ hs]
theorem RH {N:Nat} (h:N < 4294967296):al N 0=N:=by
 unfold al
 rw [Nat.pow_zero,Nat.div_one]; exact Nat.mod_eq_of_lt h
theorem Ys {D:Nat} (h:nl D=1):al D 0=D∧D < 4294967296∧0 < D:=by
 have h1:=b9 D
 rw [h,Nat.pow_one] at h1
 have h0:D≠0:=by intro e; rw [e,rh] at h; omega
 refine ⟨?_,h1,by omega⟩
 unfold al
 rw [Nat.pow_zero,Nat.div_one]; exact Nat.mod_eq_of_lt h1
/-! ### What a division's walk ends with -/
theorem S5 {A ca D cd:Nat} {H:ax} (h:A < D):yT gE (A,ca,D,cd) (.tuple ⟨[.slice none 0 0,.slice (some ⟨0,0,none⟩) (nl A) ca]⟩) H:=by
 have e1:gE.val (A,ca,D,cd)=.tuple ⟨[.slice none 0 0,one A ca]⟩:=if_pos h
 have e2:gE.new (A,ca,D,cd)=[]:=if_pos h
 refine ⟨[],List.nodup_nil,by simp,by rw [e2]; rfl,fun j b q' hb hq ho=>?_,fun j p b hp=>by simp at hp,_,by rw [e1]; rfl,.refl _⟩
 match j with
 | 0=>simp [gE,kh] at hb; subst hb; cases ho
 | 1=>simp [gE,kh] at hb; subst hb; cases ho
 | j+2=>simp [gE,kh] at hb
theorem K9 {A ca D cd q r c1 c2:Nat} {H:ax} {b1 b2:ai} (h:D≤A) (hq:2≤q) (hr:2≤r) (Iz:q≠r)
  (h1:H[q]?=some (some b1)) (J:H[r]?=some (some b2)) (o1:b1.own=true) (o2:b2.own=true) (l1:aA (dO (A / D)) b1) (l2:aA (dO (A % D)) b2) :
  yT gE (A,ca,D,cd) (.tuple ⟨[.slice (some ⟨q,0,none⟩) (nl (A / D)) c1,.slice (some ⟨r,0,none⟩) (nl (A % D)) c2]⟩) H:=by
 have hn:¬ A < D:=by omega
 have e1:gE.val (A,ca,D,cd)=.tuple ⟨[kK 2 (A / D),kK 3 (A % D)]⟩:=if_neg hn
 have e2:gE.new (A,ca,D,cd)=[dO (A / D),dO (A % D)]:=if_neg hn
 refine ⟨[q,r],by simp [Iz],fun p hp=>?_,by rw [e2]; rfl,fun j b q' hb hq ho=>?_,fun j p b hp hb=>?_,_,by rw [e1]; rfl,.two (.cap _ _ _ rfl) (.cap _ _ _ rfl)⟩
 ·simp at hp
  show 2≤p
  omega
 ·match j with
  | 0=>simp [gE,kh] at hb; subst hb; cases ho
  | 1=>simp [gE,kh] at hb; subst hb; cases ho
  | j+2=>simp [gE,kh] at hb
 ·rw [e2] at hb
  match j with
  | 0=>simp at hp hb; subst hp hb; exact ⟨b1,h1,o1,l1⟩
  | 1=>simp at hp hb; subst hp hb; exact ⟨b2,J,o2,l2⟩
  | j+2=>simp at hb
theorem La {x n:Nat} (hx:x < 4294967296) (hn:n≤1):aA (.flat false n 1 (bz x)) (.aQ true 1 [[.int .u32 (x:Nat)]]):=by
 refine ⟨(fun h=>by cases h),rfl,hn,fun r hr=>?_,fun r hr v hv=>dG (l:=bz x r) rfl v hv⟩
 have h0:r=0:=by
  have:r < n:=hr
  omega
 subst h0
 show [Value.int .u32 (al x 0:Nat)]=[Value.int .u32 (x:Nat)]
 rw [RH hx]
end Go.Ae
/- Contracts of the integers: sign and magnitude in bytes stand for a number. -/
namespace Go.Ae
open Go
/-- The number that a sign and a magnitude stand for. -/
def bc (b:Bool) (N:Nat):Int:=if b then -(N:Int) else N
def lC (b:Bool) (N:Nat):Value:=.agg ⟨[.bool (b && N != 0),.string (nb N)]⟩
/-- The canonical form of a number. -/
def aF (z:Int):Value:=.agg ⟨[.bool (decide (z < 0)),.string (nb z.natAbs)]⟩
theorem jf (b:Bool) (N:Nat):lC b N=aF (bc b N):=by
 unfold lC aF bc
 cases b
 ·simp
 ·by_cases h:N=0
  ·subst h; simp
  ·have e:(N != 0)=true:=by simp [h]
   simp [e]
   omega
theorem Uo (b c:Bool) (M N:Nat):bc (b != c) (M*N)=bc b M*bc c N:=by
 cases b <;> cases c <;> simp [bc,Int.neg_mul,Int.mul_neg]
theorem EV (b:Bool) (N:Nat):bc (!b) N=-bc b N:=by cases b <;> simp [bc]
theorem Lb (b:Bool) (M N:Nat):bc b (M+N)=bc b M+bc b N:=by cases b <;> simp [bc] <;> omega
theorem AL {b c:Bool} (h:b≠c) {M N:Nat} (hle:N≤M):bc b (M - N)=bc b M+bc c N:=by
 cases b <;> cases c <;> simp [bc] at h ⊢ <;> omega
theorem tb (b:Bool) (N:Nat):(bc b N).natAbs=N:=by cases b <;> simp [bc]
theorem Ep {b:Bool} {N:Nat}:bc b N=0↔N=0:=by cases b <;> simp [bc]
def dP (x y:Int):Int:=if x < y then -1 else if y < x then 1 else 0
theorem A0 (M N:Nat):dP (M:Int) (N:Int)=cS M N:=by
 unfold dP cS
 split <;> split <;> (try split) <;> (try split) <;> omega
theorem LM (M N:Nat):dP (-(M:Int)) (-(N:Int))=cS N M:=by
 unfold dP cS
 split <;> split <;> (try split) <;> (try split) <;> omega
theorem S6 (A D:Nat):nl (A*D)≤nl A+nl D:=jI (by
 rw [Nat.pow_add]
 exact Nat.mul_lt_mul_of_lt_of_le (b9 A) (Nat.le_of_lt (b9 D)) (eh _))
theorem Lc (A D:Nat):nl (A+D)≤max (nl A) (nl D)+1:=jI (by
 have h1:=Nat.lt_of_lt_of_le (b9 A) (Nat.pow_le_pow_right (show 0 < B by decide) (Nat.le_max_left (nl A) (nl D)))
 have J:=Nat.lt_of_lt_of_le (b9 D) (Nat.pow_le_pow_right (show 0 < B by decide) (Nat.le_max_right (nl A) (nl D)))
 have e:B ^ (max (nl A) (nl D)+1)=B ^ (max (nl A) (nl D))*4294967296:=rfl
 rw [e]
 generalize B ^ (max (nl A) (nl D))=K at *
 omega)
theorem Nj {N:Nat} (h:N < 18446744073709551616):N < 4294967296 ^ 2:=Nat.lt_of_lt_of_le h (by decide)
theorem LN {N:Nat} (h:N < 18446744073709551616):al N 0=N % 4294967296∧al N 1=N / 4294967296:=by
 unfold al
 rw [Nat.pow_zero,Nat.div_one,Nat.pow_one]
 exact ⟨rfl,Nat.mod_eq_of_lt (show N / 4294967296 < 4294967296 by omega)⟩
theorem MB {N x:Nat} (h:N < 36028797018963968) (hx:x < 256):IntKind.i64.wrap ((BitVec.ofInt IntKind.i64.bits (IntKind.i64.wrap ((N:Int)*256)) ||| BitVec.ofInt IntKind.i64.bits (IntKind.i64.wrap (x:Int))).toNat:Int)=((N*256+x:Nat):Int):=by
 rw [au (x:=(N:Int)*256) (by omega) (by omega),au (x:=(x:Int)) (by omega) (by omega),dM N x h hx]
 omega
theorem LO {N:Nat} (h:N < 18446744073709551616):aA (.flat false 2 1 (bz N)) (.aQ true 1 [[.int .u32 (IntKind.u32.wrap (N:Int))],[.int .u32 (IntKind.u32.wrap ((N:Int).fdiv (2 ^ min (Int.toNat 32) IntKind.u64.bits)))]]):=by
 obtain ⟨h1,J⟩:=LN h
 refine ⟨(fun h=>by cases h),rfl,Nat.le_refl _,fun r hr=>?_,fun r hr v hv=>dG (l:=bz N r) rfl v hv⟩
 have hr:r < 2:=hr
 match r,hr with
 | 0,_ =>
  show [Value.int .u32 (al N 0:Nat)]=[Value.int .u32 (IntKind.u32.wrap (N:Int))]
  rw [h1,vH]; rfl
 | 1,_ =>
  show [Value.int .u32 (al N 1:Nat)]=[Value.int .u32 (IntKind.u32.wrap ((N:Int).fdiv (2 ^ min (Int.toNat 32) IntKind.u64.bits)))]
  rw [J,cE,dq (by omega) (by omega)]; rfl
theorem tj {x y:Int} (h:x < y):dP x y=-1:=if_pos h
theorem tq {x y:Int} (h:y < x):dP x y=1:=by
 unfold dP
 rw [if_neg (by omega),if_pos h]
theorem VJ {N:Nat} (h:((nl N:Nat):Int) > 0):0 < N:=by
 rcases Nat.eq_zero_or_pos N with h0 | h0
 ·rw [h0,rh] at h; exact absurd h (by decide)
 ·exact h0
theorem RI {N:Nat} (h:¬ ((nl N:Nat):Int) > 0):N=0:=Kp (by omega)
theorem vU {N:Nat} (h:0 < N):decide (((nl N:Nat):Int) > 0)=true:=decide_eq_true (by have:=yd (show N≠0 by omega); omega)
theorem vL {N:Nat} (h:N=0):decide (((nl N:Nat):Int) > 0)=false:=by rw [h,rh]; rfl
theorem Cq {i:Nat} (h:i≤6):C ^ i≤281474976710656:=Nat.le_trans (Nat.pow_le_pow_right (by decide) h) (by decide)
theorem nI {i:Nat} (h:i≤7):C ^ i≤72057594037927936:=Nat.le_trans (Nat.pow_le_pow_right (by decide) h) (by decide)
theorem vB:aF 0=.agg ⟨[.bool false,.string ⟨#[]⟩]⟩:=by unfold aF; rw [Int.natAbs_zero,pf]; rfl
theorem Af {x y q r:Int} (hy:0 < y) (h:r+y*q=x) (h0:0≤r) (h1:r < y):x.fdiv y=q∧x.fmod y=r:=by
 have:=(Int.ediv_emod_unique hy).2 ⟨h,h0,h1⟩
 rw [Int.fdiv_eq_ediv_of_nonneg _ (Int.le_of_lt hy),Int.fmod_eq_emod_of_nonneg _ (Int.le_of_lt hy)]
 exact this
theorem De {x y q r:Int} (hy:y < 0) (h:r+y*q=x) (h0:r≤0) (h1:y < r):x.fdiv y=q∧x.fmod y=r:=by
 have J:=Af (x:=-x) (y:=-y) (q:=q) (r:=-r) (by omega) (by rw [← h,Int.neg_mul]; omega) (by omega) (by omega)
 rw [Int.neg_fdiv_neg] at J
 refine ⟨J.1,?_⟩
 rw [Int.fmod_def,J.1,← h]
 omega
/-- Division towards minus infinity, from the magnitudes. -/
theorem vC {b c:Bool} {A D:Nat} (hD:0 < D) (h:A % D=0∨b=c):(bc b A).fdiv (bc c D)=bc (b != c) (A / D)∧(bc b A).fmod (bc c D)=bc b (A % D):=by
 have hm:=Nat.mod_lt A hD
 have he:((A % D:Nat):Int)+(D:Int)*((A / D:Nat):Int)=(A:Int):=by
  have:=Nat.mod_add_div A D
  have J:=congrArg (fun n:Nat=>(n:Int)) this
  simpa using J
 cases b <;> cases c
 ·exact Af (by simp [bc]; omega) (by simpa [bc] using he) (by simp [bc]; omega) (by simp only [bc,Bool.false_eq_true,if_false]; omega)
 ·have h:A % D=0:=h.resolve_right (by simp)
  refine De (by simp [bc]; omega) ?_ (by simp [bc,h]) (by simp [bc,h]; omega)
  rw [h] at he ⊢
  simp only [bc,Bool.false_eq_true,if_false,if_true,bne,Bool.not_false,show ((false == true)=false) from rfl,Int.neg_mul_neg]
  exact he
 ·have h:A % D=0:=h.resolve_right (by simp)
  refine Af (by simp [bc]; omega) ?_ (by simp [bc,h]) (by simp [bc,h]; omega)
  rw [h] at he ⊢
  simp only [bc,Bool.false_eq_true,if_false,if_true,bne,Bool.not_false,show ((true == false)=false) from rfl,Int.mul_neg]
  omega
 ·refine De (by simp [bc]; omega) ?_ (by simp only [bc,if_true]; omega) (by simp only [bc,if_true]; omega)
  simp only [bc,if_true,bne,Bool.not_true,show ((true == true)=true) from rfl,Bool.false_eq_true,if_false,Int.neg_mul]
  omega
theorem DQ {b c:Bool} {A D:Nat} (hD:0 < D) (h:A % D≠0) (oM:b≠c):(bc b A).fdiv (bc c D)=bc (b != c) (A / D) - 1∧(bc b A).fmod (bc c D)=bc b (A % D)+bc c D:=by
 have hm:=Nat.mod_lt A hD
 have he:((A % D:Nat):Int)+(D:Int)*((A / D:Nat):Int)=(A:Int):=by
  have:=Nat.mod_add_div A D
  have J:=congrArg (fun n:Nat=>(n:Int)) this
  simpa using J
 cases b <;> cases c
 ·exact absurd rfl oM
 ·refine De (by simp [bc]; omega) ?_ (by simp only [bc,Bool.false_eq_true,if_false,if_true]; omega) (by simp only [bc,Bool.false_eq_true,if_false,if_true]; omega)
  simp only [bc,Bool.false_eq_true,if_false,if_true,bne,Bool.not_false,show ((false == true)=false) from rfl,Int.mul_sub,Int.neg_mul_neg,Int.mul_one]
  omega
 ·refine Af (by simp [bc]; omega) ?_ (by simp only [bc,Bool.false_eq_true,if_false,if_true]; omega) (by simp only [bc,Bool.false_eq_true,if_false,if_true]; omega)
  simp only [bc,Bool.false_eq_true,if_false,if_true,bne,Bool.not_false,show ((true == false)=false) from rfl,Int.mul_sub,Int.mul_neg,Int.mul_one]
  omega
 ·exact absurd rfl oM
theorem vM {N:Nat} (h:N=0):(!(nb N).toList == (⟨#[]⟩:ByteArray).toList)=false:=by rw [pC,h,pf]; simp
theorem vV {N:Nat} (h:N≠0):(!(nb N).toList == (⟨#[]⟩:ByteArray).toList)=true:=by
 rw [pC]
 have:nb N≠⟨#[]⟩:=fun e=>h (Jz.1 e)
 simp [this]
abbrev IV:=Bool × ByteArray
def IV.v (i:IV):Value:=.agg ⟨[.bool i.1,.string i.2]⟩
def IV.z (i:IV):Int:=bc i.1 (ab i.2)
def IV.ok (i:IV):Prop:=i.2.size≤549755813888
theorem IV.nl {i:IV} (h:i.ok):nl (ab i.2)≤137438953472:=by
 rw [Ni]
 have:=jb i.2
 have h:i.2.size≤549755813888:=h
 omega
theorem BH (b:Bool) (N:Nat):IV.z (b && N != 0,nb N)=bc b N:=by
 show bc _ (ab (nb N))=_
 rw [ia]
 cases b
 ·rfl
 ·by_cases h:N=0
  ·subst h; rfl
  ·have e:(N != 0)=true:=by simp [h]
   rw [e]; rfl
theorem Az {N:Nat} {s:ByteArray} (h:N≤ab s):(nb N).size≤s.size:=by
 rw [gD]
 exact Nat.le_trans (iO h) (jb s)
theorem Ga:(nb 1).size≤1:=by rw [gD]; exact gJ (by decide)
theorem Nk (z:Int):IV.z (decide (z < 0),nb z.natAbs)=z:=by
 show bc _ (ab (nb z.natAbs))=z
 rw [ia]
 unfold bc
 by_cases h:z < 0
 ·simp [h]; omega
 ·simp [h]; omega
theorem FC {i:IV} (h:i.2.size≤7):-72057594037927936 < i.z∧i.z < 72057594037927936:=by
 have h1:=Nat.lt_of_lt_of_le (gw i.2) (nI h)
 unfold IV.z bc
 split <;> omega
def eZ:bG:={ ι:=Int,args:=fun n=>[.int .i64 n],pre:=fun n=>-9223372036854775808≤n∧n < 9223372036854775808,val:=fun n=>aF n }
def vW:bG:={ ι:=IV,args:=fun i=>[i.v],pre:=IV.ok,val:=fun i=>.tuple ⟨[.int .i64 (if i.2.size≤7 then i.z else 0),.bool (decide (i.2.size≤7))]⟩ }
def gV:bG:={ ι:=IV,args:=fun i=>[i.v],pre:=IV.ok,val:=fun i=>aF (-i.z) }
abbrev ku:=IV × IV
def ku.ok (i:ku):Prop:=i.1.ok∧i.2.ok
def iW:bG:={ ι:=ku,args:=fun i=>[i.1.v,i.2.v],pre:=ku.ok,val:=fun i=>aF (i.1.z+i.2.z) }
def mq:bG:={ ι:=ku,args:=fun i=>[i.1.v,i.2.v],pre:=ku.ok,val:=fun i=>aF (i.1.z - i.2.z) }
def fm:bG:={ ι:=ku,args:=fun i=>[i.1.v,i.2.v],pre:=ku.ok,val:=fun i=>aF (i.1.z*i.2.z) }
def lE:bG:={ ι:=ku,args:=fun i=>[i.1.v,i.2.v],pre:=ku.ok,val:=fun i=>.int .i64 (dP i.1.z i.2.z) }
def um:bG:={ ι:=ku,args:=fun i=>[i.1.v,i.2.v],pre:=ku.ok,val:=fun i=>aF (Int.gcd i.1.z i.2.z:Nat) }
def iH:bG:={ ι:=ku,args:=fun i=>[i.1.v,i.2.v],pre:=ku.ok,val:=fun i=>.tuple ⟨[aF (i.1.z.fdiv i.2.z),aF (if i.2.z=0 then 0 else i.1.z.fmod i.2.z),.int .i64 (if i.2.z=0 then 10 else 0)]⟩ }
/-- The first bytes of a number, one more. -/
theorem xR {s:ByteArray} {i:Nat} (h:i < s.size):ab s / C ^ (s.size - (i+1))=ab s / C ^ (s.size - i)*256+cf s i:=by
 rw [s4 h,show s.size - 1 - i=s.size - (i+1) by omega]
 have e:C ^ (s.size - i)=C ^ (s.size - (i+1))*C:=by rw [← Nat.pow_succ]; congr 1; omega
 rw [e,← Nat.div_div_eq_div_mul,Nat.mul_comm]
 exact (Nat.div_add_mod _ C).symm
theorem BI (s:ByteArray) {i:Nat} (h:i≤s.size):ab s / C ^ (s.size - i) < C ^ i:=by
 refine (Nat.div_lt_iff_lt_mul (gR _)).2 ?_
 rw [← Nat.pow_add,show i+(s.size - i)=s.size by omega]
 exact gw s
end Go.Ae
/- Contracts of the reference implementation's integers: digits as bytes. -/
namespace Go.Ae
open Go
def jh:bG:={ ι:=IV,args:=fun i=>[i.v],pre:=IV.ok,val:=fun i=>aF i.z }
def j7:bG:={ ι:=ByteArray,args:=fun s=>[.string s],pre:=fun s=>s.size≤7,val:=fun s=>.int .i64 (ab s:Nat) }
def wj:bG:={ ι:=IV,args:=fun i=>[i.v],pre:=fun i=>i.2.size≤7,val:=fun i=>.int .i64 i.z }
def Hr:bG:={ ι:=Nat,args:=fun n=>[.int .i64 n],pre:=fun n=>n < 9223372036854775808,val:=fun n=>.string (nb n) }
def rj:bG:={ ι:=Nat × Nat,args:=fun i=>[.string (nb i.1),.string (nb i.2)],pre:=fun i=>aR i.1≤1099511627776∧aR i.2≤1099511627776,val:=fun i=>.int .i64 (cS i.1 i.2) }
/-- A leading byte that is zero may go. -/
theorem drop_zero {u:ByteArray} (h1:u.size≠0) (J:cf u 0=0):ab (u.extract 1 u.size)=ab u∧(u.extract 1 u.size).size=u.size - 1:=by
 have h3:=s4 (s:=u) (i:=0) (by omega)
 have h4:=gw u
 refine ⟨?_,Dk (by omega) (Nat.le_refl _)⟩
 rw [Dp (by omega) (Nat.le_refl _),Nat.sub_self,Nat.pow_zero,Nat.div_one]
 refine Nat.mod_eq_of_lt ?_
 rw [J,Nat.sub_zero] at h3
 have h5:ab u / C ^ (u.size - 1) < C:=(Nat.div_lt_iff_lt_mul (gR _)).2 (by
  rw [Nat.mul_comm,← Nat.pow_succ,show (u.size - 1).succ=u.size by omega]; exact h4)
 rw [Nat.mod_eq_of_lt h5] at h3
 rcases Nat.lt_or_ge (ab u) (C ^ (u.size - 1)) with h6 | h6
 ·exact h6
 ·have:=Nat.div_pos h6 (gR _)
  omega
theorem LP {N x:Nat} (h:N < 36028797018963968) (hx:x < 256):IntKind.i64.wrap ((BitVec.ofInt IntKind.i64.bits (IntKind.i64.wrap ((N:Int)*2 ^ min (Int.toNat 8) IntKind.i64.bits)) ||| BitVec.ofInt IntKind.i64.bits (IntKind.i64.wrap (x:Int))).toNat:Int)=((N*256+x:Nat):Int):=MB h hx
theorem pD (t:Nat):IntKind.u8.wrap (t:Int)=((t % C:Nat):Int):=by rw [kT]; rfl
theorem Dq {g:Nat→List Value} {i m X:Nat} (h:∀ r,r < m→g (i+r)=[.int .u8 ((X / C ^ (m - 1 - r) % C:Nat):Int)]):(⟨⟨bytesOf g i m⟩⟩:ByteArray)=be m X:=by
 have e:bytesOf g i m=bytesOf (fun r=>g (i+r)) 0 m:=by
  unfold bytesOf
  simp only [Nat.zero_add]
 rw [e]
 exact vo h
theorem wI {N n:Nat} (h:N < C ^ n) (J:n=0∨C ^ (n - 1)≤N):nb N=be n N:=by
 unfold nb
 rw [Nf h J]
/-- A string without a leading zero. -/
theorem S7 {b:Bool} {s:ByteArray} (h:0 < s.size) (J:cf s 0≠0):Value.agg ⟨[.bool b,.string s]⟩=aF (IV.z (b,s)):=by
 have h3:=ye (s:=s) (.inr J)
 have h4:ab s≠0:=by
  intro e
  rw [e,pf] at h3
  rw [h3] at h
  exact absurd h (by decide)
 have e:=jf b (ab s)
 unfold lC at e
 rw [← h3] at e
 have e1:(ab s != 0)=true:=by simp [h4]
 rw [e1,Bool.and_true] at e
 exact e
theorem OB {n:Nat} (h:n < 9223372036854775808):n / C ^ 8=0:=Nat.div_eq_of_lt (Nat.lt_of_lt_of_le h (by decide))
theorem Ld {A D:Nat} (h:(nb A).size < (nb D).size):A < D:=by
 rw [gD,gD] at h
 exact Qu h
theorem S8 {A D:Nat} (h:(nb A).size=(nb D).size):Op.bytesLess (nb A).toList (nb D).toList=decide (A < D):=by
 rw [Ue h,ia,ia]
theorem S9 {A D:Nat}:((nb A).toList == (nb D).toList)=decide (A=D):=by
 rw [pC]
 by_cases h:A=D
 ·subst h; simp
 ·have:nb A≠nb D:=fun e=>h (Ng e)
  simp [this,h]
theorem EW (N:Nat):(!(nb N).toList == (⟨#[]⟩:ByteArray).toList)=(N != 0):=by
 by_cases h:N=0
 ·rw [vM h,h]; rfl
 ·rw [vV h]; simp [h]
theorem Dr (n k:Nat):n / C ^ k / 256=n / C ^ (k+1):=by rw [Nat.div_div_eq_div_mul,← Nat.pow_succ]
end Go.Ae
/- Digits to the base 256, as limbs are to the base 2^32. -/
namespace Go.Ae
open Go
def bW (N i:Nat):Nat:=N / C ^ i % C
theorem pE (N i:Nat):bW N i < C:=Nat.mod_lt _ (by decide)
def j8 (Y j d:Nat):Nat:=Y % C ^ j+C ^ j*(d+C*(Y / C ^ (j+1)))
theorem DR (Y j:Nat):Y=Y % C ^ j+C ^ j*(bW Y j+C*(Y / C ^ (j+1))):=by
 have h1:=Nat.mod_add_div Y (C ^ j)
 have J:=Nat.mod_add_div (Y / C ^ j) C
 rw [Nat.div_div_eq_div_mul,← Nat.pow_succ] at J
 unfold bW
 rw [J,h1]
theorem Kv (Y j d:Nat):j8 Y j d+bW Y j*C ^ j=Y+d*C ^ j:=by
 have h:=DR Y j
 unfold j8
 rw [Nat.mul_add] at h ⊢
 have e1:C ^ j*bW Y j=bW Y j*C ^ j:=Nat.mul_comm _ _
 have e2:C ^ j*d=d*C ^ j:=Nat.mul_comm _ _
 omega
theorem MC {Y j d:Nat} (hd:d < C) (r:Nat):bW (j8 Y j d) r=if r=j then d else bW Y r:=by
 have ha:Y % C ^ j < C ^ j:=Nat.mod_lt _ (gR j)
 rcases Nat.lt_trichotomy r j with h | h | h
 ·rw [if_neg (by omega)]
  have key:∀ K,bW (Y % C ^ j+C ^ j*K) r=bW (Y % C ^ j) r:=by
   intro K
   unfold bW
   have e:C ^ j*K=C ^ r*(C*(C ^ (j - r - 1)*K)):=by
    rw [← Nat.mul_assoc,← Nat.mul_assoc,← Nat.pow_succ,← Nat.pow_add,show r+1+(j - r - 1)=j by omega]
   rw [e,Nat.add_mul_div_left _ _ (gR r),Nat.add_mul_mod_self_left]
  have h1:=key (d+C*(Y / C ^ (j+1)))
  have J:=key (bW Y j+C*(Y / C ^ (j+1)))
  rw [← DR Y j] at J
  unfold j8
  rw [h1,J]
 ·subst h
  rw [if_pos rfl]
  unfold j8 bW
  rw [ob ha,Nat.add_mul_mod_self_left,Nat.mod_eq_of_lt hd]
 ·rw [if_neg (by omega)]
  have key:∀ d',d' < C→bW (Y % C ^ j+C ^ j*(d'+C*(Y / C ^ (j+1)))) r=Y / C ^ (j+1) / C ^ (r - j - 1) % C:=by
   intro d' cY
   unfold bW
   have e:C ^ r=C ^ j*(C*C ^ (r - j - 1)):=by
    rw [← Nat.mul_assoc,← Nat.pow_succ,← Nat.pow_add,show j+1+(r - j - 1)=r by omega]
   rw [e,← Nat.div_div_eq_div_mul,ob ha,← Nat.div_div_eq_div_mul,ob cY]
  have h1:=key d hd
  have J:=key (bW Y j) (pE Y j)
  rw [← DR Y j] at J
  unfold j8
  rw [h1,J]
theorem Up (r:Nat):bW 0 r=0:=by simp [bW]
theorem FD {N n:Nat} (h:N < C ^ n) {r:Nat} (hr:n≤r):bW N r=0:=by
 unfold bW
 have:C ^ n≤C ^ r:=Nat.pow_le_pow_right (by decide) hr
 rw [Nat.div_eq_of_lt (by omega)]; rfl
theorem vD (N i:Nat):N % C ^ (i+1)=N % C ^ i+bW N i*C ^ i:=by
 unfold bW
 rw [Nat.pow_succ,Nat.mod_mul]
 rw [Nat.mul_comm (C ^ i)]
theorem Kw {Y i d:Nat} (hY:Y < C ^ i):j8 Y i d=Y+d*C ^ i:=by
 have h:=Kv Y i d
 rw [FD hY (Nat.le_refl _),Nat.zero_mul,Nat.add_zero] at h
 exact h
theorem Le {Z j d m:Nat} (hZ:Z < C ^ m) (hj:j < m) (hd:d < C):j8 Z j d < C ^ m:=by
 have h1:(j8 Z j d) / C ^ m=0:=by
  have e:C ^ m=C ^ j*(C*C ^ (m - j - 1)):=by
   rw [← Nat.mul_assoc,← Nat.pow_succ,← Nat.pow_add,show j+1+(m - j - 1)=m by omega]
  have ha:Z % C ^ j < C ^ j:=Nat.mod_lt _ (gR j)
  unfold j8
  rw [e,← Nat.div_div_eq_div_mul,ob ha,← Nat.div_div_eq_div_mul,ob hd,Nat.div_div_eq_div_mul,← Nat.pow_add,show j+1+(m - j - 1)=m by omega]
  exact Nat.div_eq_of_lt hZ
 rcases Nat.lt_or_ge (j8 Z j d) (C ^ m) with h | h
 ·exact h
 ·have:=Nat.div_pos h (gR m)
  omega
/-- One dig of a product. -/
theorem Q0 {Z c x D i k t Y:Nat} (he:Z+c*C ^ (i+k)=Y+x*(D % C ^ k)*C ^ i) (ht:t=c+(x*bW D k+bW Z (i+k))) :
  j8 Z (i+k) (t % C)+t / C*C ^ (i+(k+1))=Y+x*(D % C ^ (k+1))*C ^ i:=by
 have hs:=Kv Z (i+k) (t % C)
 rw [vD D k,← Nat.add_assoc,Nat.pow_succ]
 rw [Nat.pow_add] at he hs ⊢
 exact JU he hs ht
theorem RJ {A D Y Z c i n:Nat} (hY:Y=A % C ^ i*D) (hD:D < C ^ n) (hZ:Z < C ^ (i+n)) (he:Z+c*C ^ (i+n)=Y+bW A i*(D % C ^ n)*C ^ i) :
  j8 Z (i+n) c=A % C ^ (i+1)*D:=by
 rw [Kw hZ,he,Nat.mod_eq_of_lt hD,hY,vD,Nat.add_mul,Nat.mul_assoc (bW A i),Nat.mul_comm D,← Nat.mul_assoc]
end Go.Ae
/- Contracts of the reference implementation's digit arithmetic. -/
namespace Go.Ae
open Go
abbrev S2:=ByteArray × ByteArray
def S2.ok (i:S2):Prop:=i.1.size≤549755813896∧i.2.size≤549755813896
def vX:bG:={ ι:=S2,args:=fun i=>[.string i.1,.string i.2],pre:=S2.ok,val:=fun i=>.string (nb (ab i.1+ab i.2)) }
def rk:bG:={ ι:=S2,args:=fun i=>[.string i.1,.string i.2],pre:=fun i=>S2.ok i∧ab i.2≤ab i.1,val:=fun i=>.string (nb (ab i.1 - ab i.2)) }
def FE:bG:={ ι:=S2,args:=fun i=>[.string i.1,.string i.2],pre:=fun i=>i.1.size≤549755813888∧i.2.size≤549755813888,val:=fun i=>.string (nb (ab i.1*ab i.2)) }
def pg:bG:={ ι:=ByteArray × Nat,args:=fun i=>[.string i.1,.string (nb i.2)],pre:=fun i=>i.1.size≤549755813888∧aR i.2≤549755813888∧i.2≠0,val:=fun i=>.tuple ⟨[.string (nb (ab i.1 / i.2)),.string (nb (ab i.1 % i.2))]⟩ }
theorem sW {s:ByteArray} {j:Nat} (h:j < s.size):cf s (s.size - (j+1))=bW (ab s) j:=by
 rw [s4 (by omega),show s.size - 1 - (s.size - (j+1))=j by omega]
 rfl
theorem A1 {s:ByteArray} {j:Nat} (h:s.size≤j):bW (ab s) j=0:=FD (gw s) h
/-- The last j rows hold the last j digits. -/
def mH (g:Nat→List Value) (n j Y:Nat):Prop:=(∀ r,r < n→∃ x:Int,g r=[.int .u8 x])∧∀ r,n - j≤r→r < n→g r=[.int .u8 ((bW Y (n - 1 - r):Nat):Int)]
theorem Ji (n:Nat):mH (fun _=>[.int .u8 0]) n 0 0:=⟨fun r _=>⟨0,rfl⟩,fun r h1 J=>absurd h1 (by omega)⟩
theorem Jm {g:Nat→List Value} {n j Y d:Nat} (h:mH g n j Y) (hj:j < n) (hY:Y < C ^ j) (hd:d < C) :
  mH (fun r=>if r=n - (j+1) then [.int .u8 (d:Nat)] else g r) n (j+1) (Y+d*C ^ j):=by
 refine ⟨fun r hr=>?_,fun r h1 J=>?_⟩
 ·by_cases e:r=n - (j+1)
  ·exact ⟨_,if_pos e⟩
  ·simp only [if_neg e]; exact h.1 r hr
 ·rw [← Kw hY,MC hd]
  by_cases e:r=n - (j+1)
  ·simp only [if_pos e]
   rw [if_pos (by omega)]
  ·simp only [if_neg e]
   rw [if_neg (by omega)]
   exact h.2 r (by omega) J
theorem JC {g:Nat→List Value} {n Y:Nat} (h:mH g n n Y):(⟨⟨bytesOf g 0 n⟩⟩:ByteArray)=be n Y:=vo fun r hr=>by
 rw [h.2 r (by omega) hr]
 rfl
theorem RK {X D Y c i t:Nat} (he:Y+c*C ^ i=X % C ^ i+D % C ^ i) (ht:t=c+bW X i+bW D i) :
  Y+t % C*C ^ i+t / C*C ^ (i+1)=X % C ^ (i+1)+D % C ^ (i+1):=by
 rw [vD X i,vD D i,Nat.pow_succ]
 exact Kr he ht
theorem JW {Y d i:Nat} (hY:Y < C ^ i) (hd:d < C):Y+d*C ^ i < C ^ (i+1):=by
 have h:(d+1)*C ^ i≤C*C ^ i:=Nat.mul_le_mul_right _ hd
 rw [Nat.pow_succ,Nat.mul_comm (C ^ i) C]
 rw [Nat.add_mul] at h
 omega
theorem VK {A D Y c n p q:Nat} (hA:A < C ^ p) (hD:D < C ^ q) (hn:p < n∧q < n) (hY:Y < C ^ n) (he:Y+c*C ^ n=A % C ^ n+D % C ^ n):Y=A+D:=by
 have h1:A < C ^ (n - 1):=Nat.lt_of_lt_of_le hA (Nat.pow_le_pow_right (by decide) (by omega))
 have J:D < C ^ (n - 1):=Nat.lt_of_lt_of_le hD (Nat.pow_le_pow_right (by decide) (by omega))
 have e:C ^ n=C ^ (n - 1)*256:=by rw [← Nat.pow_succ]; congr 1; omega
 have h3:A < C ^ n:=by omega
 have h4:D < C ^ n:=by omega
 rw [Nat.mod_eq_of_lt h3,Nat.mod_eq_of_lt h4] at he
 have hc:c=0:=by
  rcases Nat.eq_zero_or_pos c with h | h
  ·exact h
  ·have:1*C ^ n≤c*C ^ n:=Nat.mul_le_mul_right _ h
   omega
 subst hc
 omega
theorem Bh {n Y:Nat} (h:Y < C ^ n):nb (ab (be n Y))=nb Y:=by rw [Fy,Nat.mod_eq_of_lt h]
/-- A sum under way: kept from omega's eyes. -/
structure yh (A D j Y c:Nat):Prop where
 lt:Y < C ^ j
 eq:Y+c*C ^ j=A % C ^ j+D % C ^ j
theorem Qw (A D:Nat):yh A D 0 0 0:=⟨by decide,by simp [Nat.mod_one]⟩
theorem Q1 {A D j Y c t n:Nat} {g:Nat→List Value} (h:yh A D j Y c) (hg:mH g n j Y) (hj:j < n) (ht:t=c+bW A j+bW D j) :
  ∃ Y',yh A D (j+1) Y' (t / C)∧mH (fun r=>if r=n - (j+1) then [.int .u8 (t % C:Nat)] else g r) n (j+1) Y' :=
 have fN:t % C < C:=Nat.mod_lt _ (by decide)
 ⟨Y+t % C*C ^ j,⟨JW h.lt fN,RK h.eq ht⟩,Jm hg hj h.lt fN⟩
theorem RL {s t:ByteArray} {Y c n:Nat} {g:Nat→List Value} (h:yh (ab s) (ab t) n Y c) (hg:mH g n n Y) (hn:s.size < n∧t.size < n) :
  ∃ v:ByteArray,(⟨⟨bytesOf g 0 n⟩⟩:ByteArray)=v∧v.size=n∧nb (ab v)=nb (ab s+ab t) :=
 ⟨be n Y,JC hg,vT _ _,by rw [Bh h.lt,VK (gw s) (gw t) hn h.lt h.eq]⟩
theorem EX {n:Int} (h:n < 0) (J:-9223372036854775808≤n):IntKind.i64.wrap (0 - n)=if n=-9223372036854775808 then n else -n:=by
 split
 ·rename_i e; subst e; decide
 ·rw [au (by omega) (by omega)]; omega
theorem Yt:nb 9223372036854775808=⟨#[128,0,0,0,0,0,0,0]⟩:=by
 rw [wI (n:=8) (by decide) (.inr (by decide))]
 rfl
theorem Uq:aF (-9223372036854775808)=.agg ⟨[.bool true,.string ⟨#[128,0,0,0,0,0,0,0]⟩]⟩:=by
 rw [← Yt]; rfl
theorem vi {n:Int} (h:n < 0):aF n=.agg ⟨[.bool true,.string (nb n.natAbs)]⟩:=by
 unfold aF
 rw [decide_eq_true h]
theorem vj {n:Int} (h:0≤n):aF n=.agg ⟨[.bool false,.string (nb n.natAbs)]⟩:=by
 unfold aF
 rw [decide_eq_false (by omega)]
theorem IV.aR {i:IV} (h:i.ok):Go.Ae.aR i.z.natAbs≤549755813888:=by
 unfold IV.z
 rw [tb]
 exact Nat.le_trans (jb i.2) h
theorem MD {x y:Int} (hx:0≤x) (hy:0≤y):dP x y=cS x.natAbs y.natAbs:=by
 rw [← A0]; congr 1 <;> omega
theorem ME {x y:Int} (hx:x < 0) (hy:y < 0):dP x y=cS y.natAbs x.natAbs:=by
 rw [← LM]; congr 1 <;> omega
end Go.Ae
/- The reference implementation's difference, product, quotient of digits: the plain laws. -/
namespace Go.Ae
open Go
/-- A difference under way. -/
structure yi (A D j Y c:Nat):Prop where
 lt:Y < C ^ j
 eq:Y+D % C ^ j=A % C ^ j+c*C ^ j
theorem Qx (A D:Nat):yi A D 0 0 0:=⟨by decide,by simp [Nat.mod_one]⟩
theorem RM {Y D A P c e d a c':Nat} (h:Y+D=A+c*P) (he:e+c+d=a+256*c') :
  Y+e*P+(D+d*P)=A+a*P+c'*(P*256):=by
 have J:(e+c+d)*P=(a+256*c')*P:=by rw [he]
 simp only [Nat.add_mul] at J
 have h3:c'*(P*256)=256*c'*P:=by rw [Nat.mul_comm P,← Nat.mul_assoc,Nat.mul_comm c']
 omega
theorem Ar {A D j Y c e c' n:Nat} {g:Nat→List Value} (h:yi A D j Y c) (hg:mH g n j Y) (hj:j < n) (he:e < C) (ht:e+c+bW D j=bW A j+256*c') :
  ∃ Y',yi A D (j+1) Y' c'∧mH (fun r=>if r=n - (j+1) then [.int .u8 (e:Nat)] else g r) n (j+1) Y' :=
 ⟨Y+e*C ^ j,⟨JW h.lt he,by
  rw [vD A j,vD D j,Nat.pow_succ]
  exact RM h.eq ht⟩,Jm hg hj h.lt he⟩
theorem RN {s t:ByteArray} {Y c:Nat} {g:Nat→List Value} (h:yi (ab s) (ab t) s.size Y c) (hle:ab t≤ab s) (hg:mH g s.size s.size Y) :
  ∃ v:ByteArray,(⟨⟨bytesOf g 0 s.size⟩⟩:ByteArray)=v∧v.size=s.size∧nb (ab v)=nb (ab s - ab t):=by
 refine ⟨be s.size Y,JC hg,vT _ _,?_⟩
 rw [Bh h.lt]
 have h1:=h.eq
 have J:=h.lt
 have h3:=gw s
 rw [Nat.mod_eq_of_lt h3,Nat.mod_eq_of_lt (Nat.lt_of_le_of_lt hle h3)] at h1
 have hc:c=0:=by
  rcases Nat.eq_zero_or_pos c with h | h
  ·exact h
  ·have:1*C ^ s.size≤c*C ^ s.size:=Nat.mul_le_mul_right _ h
   omega
 subst hc
 congr 1
 omega
/-- The rows of a list of digits, the first one last. -/
def pM (g:Nat→List Value) (n Z:Nat):Prop:=∀ r,r < n→g r=[.int .i64 ((bW Z (n - 1 - r):Nat):Int)]
theorem Q5 (n:Nat):pM (fun _=>[.int .i64 0]) n 0:=fun r hr=>by rw [Up]; rfl
theorem Lf {g:Nat→List Value} {n Z j d:Nat} (h:pM g n Z) (hj:j < n) (hd:d < C) :
  pM (fun r=>if r=n - 1 - j then [.int .i64 (d:Nat)] else g r) n (j8 Z j d):=fun r hr=>by
 rw [MC hd]
 by_cases e:r=n - 1 - j
 ·simp only [if_pos e]; rw [if_pos (by omega)]
 ·simp only [if_neg e]; rw [if_neg (by omega)]; exact h r hr
/-- A product under way: p digits of A are done, and q digits of the row. -/
structure yj (A D p m q Z c:Nat):Prop where
 lt:Z < C ^ (p+m)
 eq:Z+c*C ^ (p+q)=A % C ^ p*D+bW A p*(D % C ^ q)*C ^ p
structure yk (A D p m Z:Nat):Prop where
 lt:Z < C ^ (p+m)
 eq:Z=A % C ^ p*D
theorem Qy (A D m:Nat):yk A D 0 m 0:=⟨gR _,by simp [Nat.mod_one]⟩
theorem Qz {A D p m Z:Nat} (h:yk A D p m Z):yj A D p m 0 Z 0:=⟨h.lt,by simp [Nat.mod_one,h.eq]⟩
theorem Q6 {A D p m q Z c t n:Nat} {g:Nat→List Value} (h:yj A D p m q Z c) (hg:pM g n Z) (hq:q < m) (hn:p+m < n) (ht:t=c+(bW A p*bW D q+bW Z (p+q))) :
  ∃ Z',yj A D p m (q+1) Z' (t / C)∧pM (fun r=>if r=n - 1 - (p+q) then [.int .i64 (t % C:Nat)] else g r) n Z' :=
 have fN:t % C < C:=Nat.mod_lt _ (by decide)
 ⟨j8 Z (p+q) (t % C),⟨Le h.lt (by omega) fN,Q0 h.eq ht⟩,Lf hg (by omega) fN⟩
theorem RO {A D p m Z c n:Nat} {g:Nat→List Value} (h:yj A D p m m Z c) (hD:D < C ^ m) (hg:pM g n Z) (hn:p+m < n) (hc:c < C) :
  (bW Z (p+m)=0)∧∃ Z',yk A D (p+1) m Z'∧pM (fun r=>if r=n - 1 - (p+m) then [.int .i64 (c:Nat)] else g r) n Z' :=
 ⟨FD h.lt (Nat.le_refl _),j8 Z (p+m) c,⟨by
  rw [show p+1+m=p+m+1 by omega]
  exact Le (Nat.lt_of_lt_of_le h.lt (Nat.pow_le_pow_right (by decide) (Nat.le_succ _))) (by omega) hc,RJ rfl hD h.lt h.eq⟩,Lf hg hn hc⟩
theorem RP {A D p m Z:Nat} (h:yk A D p m Z) (hA:A < C ^ p):Z=A*D:=by rw [h.eq,Nat.mod_eq_of_lt hA]
/-- A list of digits turned into bytes, the first i of them. -/
def vN (g:Nat→List Value) (n i Z:Nat):Prop:=(∀ r,r < n→∃ x:Int,g r=[.int .u8 x])∧∀ r,r < i→g r=[.int .u8 ((bW Z (n - 1 - r):Nat):Int)]
theorem Qf (n Z:Nat):vN (fun _=>[.int .u8 0]) n 0 Z:=⟨fun r _=>⟨0,rfl⟩,fun r h=>absurd h (by omega)⟩
theorem Qj {g:Nat→List Value} {n i Z:Nat} (h:vN g n i Z) (hi:i < n) :
  vN (fun r=>if r=i then [.int .u8 (bW Z (n - 1 - i):Nat)] else g r) n (i+1) Z:=by
 refine ⟨fun r hr=>?_,fun r hr=>?_⟩
 ·by_cases e:r=i
  ·exact ⟨_,if_pos e⟩
  ·simp only [if_neg e]; exact h.1 r hr
 ·by_cases e:r=i
  ·subst e; simp
  ·simp only [if_neg e]; exact h.2 r (by omega)
theorem QA {g:Nat→List Value} {n Z:Nat} (h:vN g n n Z):(⟨⟨bytesOf g 0 n⟩⟩:ByteArray)=be n Z:=vo fun r hr=>h.2 r hr
theorem QC {g:Nat→List Value} {n Z:Nat} (h:vN g n n Z) (hZ:Z < C ^ n):∃ v:ByteArray,(⟨⟨bytesOf g 0 n⟩⟩:ByteArray)=v∧v.size=n∧nb (ab v)=nb Z :=
 ⟨be n Z,QA h,vT _ _,Bh hZ⟩
theorem RQ {c x y z t:Nat} (hc:c < C) (hx:x < C) (hy:y < C) (hz:z < C) (ht:t=c+(x*y+z)):t / C < C∧t < 65536:=by
 have:x*y≤255*255:=Nat.mul_le_mul (Nat.le_of_lt_succ hx) (Nat.le_of_lt_succ hy)
 have hc:c < 256:=hc
 have hz:z < 256:=hz
 have h:t < 65536:=by omega
 exact ⟨by show t / 256 < 256; omega,h⟩
theorem VL {c x y z t:Nat} (hc:c < C) (hx:x < C) (hy:y < C) (hz:z < C) (ht:t=c+(x*y+z)) :
  IntKind.i64.wrap ((c:Int)+IntKind.i64.wrap ((z:Int)+IntKind.i64.wrap (IntKind.i64.wrap (x:Int)*IntKind.i64.wrap (y:Int))))=(t:Int):=by
 have h:x*y≤255*255:=Nat.mul_le_mul (Nat.le_of_lt_succ hx) (Nat.le_of_lt_succ hy)
 have hc:c < 256:=hc
 have hz:z < 256:=hz
 have hx:x < 256:=hx
 have hy:y < 256:=hy
 have e:(x:Int)*(y:Int)=((x*y:Nat):Int):=by rw [Int.natCast_mul]
 rw [au (x:=(x:Int)) (by omega) (by omega),au (x:=(y:Int)) (by omega) (by omega),e,au (x:=((x*y:Nat):Int)) (by omega) (by omega),au (x:=(z:Int)+_) (by omega) (by omega),au (by omega) (by omega)]
 omega
theorem VM {t:Nat} (h:t < 65536):((BitVec.ofInt IntKind.i64.bits (t:Int) &&& BitVec.ofInt IntKind.i64.bits 255).toNat:Int)=((t % C:Nat):Int):=by
 have e1:BitVec.ofInt IntKind.i64.bits (t:Int)=BitVec.ofNat 64 t:=by
  apply BitVec.eq_of_toNat_eq
  show ((t:Int) % ((2 ^ 64:Nat):Int)).toNat=t % 2 ^ 64
  omega
 rw [e1]
 show (((t % 2 ^ 64) &&& 255:Nat):Int)=_
 have:(t % 2 ^ 64) &&& 255=t % 256:=by
  rw [show (255:Nat)=2 ^ 8 - 1 from rfl,Nat.and_two_pow_sub_one_eq_mod]
  omega
 rw [this]
theorem Ur {s t:ByteArray}:ab s*ab t < C ^ (s.size+t.size):=by
 rw [Nat.pow_add]
 exact Nat.lt_of_le_of_lt (Nat.mul_le_mul_right _ (Nat.le_of_lt (gw s))) (Nat.mul_lt_mul_of_pos_left (gw t) (gR _))
/-- A long division under way: the first i bytes of s are done. -/
theorem tX {e:Nat} (h:e < 256):IntKind.u8.wrap (e:Int)=(e:Int):=dH (by omega) (by omega)
structure wk (s:ByteArray) (D i Q R:Nat):Prop where
 eq:ab s / C ^ (s.size - i)=Q*D+R
 lt:R < D
 q:Q < C ^ i
structure tv (D R' k d R:Nat):Prop where
 eq:R'=d*D+R
 lt:R < 2 ^ k*D
 d:d+2 ^ k≤256
theorem QD (s:ByteArray) {D:Nat} (hD:D≠0):wk s D 0 0 0:=⟨by
 rw [Nat.sub_zero,Nat.div_eq_of_lt (gw s),Nat.zero_mul],Nat.pos_of_ne_zero hD,Nat.zero_lt_one⟩
theorem Qk {s:ByteArray} {D i Q R:Nat} (h:wk s D i Q R) (hi:i < s.size):tv D (R*256+cf s i) 8 0 (R*256+cf s i) :=
 ⟨by omega,by
  have h1:cf s i < 256:=vA s i
  have J:=h.lt
  show _ < 256*D
  omega,by decide⟩
theorem Q7 {D R' k d R:Nat} (h:tv D R' (k+1) d R) (hR:2 ^ k*D≤R):tv D R' k (d+2 ^ k) (R - 2 ^ k*D):=⟨by
 have:=h.eq
 rw [Nat.add_mul]
 omega,by
 have:=h.lt
 rw [Nat.pow_succ,Nat.mul_comm (2 ^ k) 2,Nat.mul_assoc] at this
 omega,by
 have:=h.d
 rw [Nat.pow_succ] at this
 omega⟩
theorem RR {D R' k d R:Nat} (h:tv D R' (k+1) d R) (hR:R < 2 ^ k*D):tv D R' k d R:=⟨h.eq,hR,by
 have:=h.d
 rw [Nat.pow_succ] at this
 omega⟩
theorem Q8 {s:ByteArray} {D i Q R d R2:Nat} (h:wk s D i Q R) (hi:i < s.size) (J:tv D (R*256+cf s i) 0 d R2):wk s D (i+1) (Q*256+d) R2:=⟨by
 rw [xR hi,h.eq,Nat.add_mul (Q*256),Nat.add_mul (Q*D)]
 have h3:=J.eq
 have e:Q*256*D=Q*D*256:=by rw [Nat.mul_assoc,Nat.mul_comm 256,Nat.mul_assoc]
 rw [e,Nat.add_assoc,h3,Nat.add_assoc],by have:=J.lt; simpa using this,by
 have:=h.q
 have h3:d < 256:=by have:=J.d; omega
 rw [Nat.pow_succ]
 show _ < C ^ i*256
 omega⟩
theorem RS {s:ByteArray} {D Q R:Nat} (h:wk s D s.size Q R):Q=ab s / D∧R=ab s % D:=by
 have h1:=h.eq
 rw [Nat.sub_self,Nat.pow_zero,Nat.div_one] at h1
 have J:=h.lt
 refine ⟨?_,?_⟩
 ·rw [h1,Nat.mul_comm,Nat.mul_add_div (by omega),Nat.div_eq_of_lt J,Nat.add_zero]
 ·rw [h1,Nat.mul_comm,Nat.mul_add_mod,Nat.mod_eq_of_lt J]
/-- The multiples of a divisor. -/
def AM (g:Nat→List Value) (i D:Nat):Prop:=(∀ r,r < 8→∃ x:ByteArray,g r=[.string x])∧∀ r,r < i→g r=[.string (nb (2 ^ r*D))]
theorem Qb (D:Nat):AM (fun r=>if r=0 then [.string (nb D)] else [.string ⟨#[]⟩]) 1 D:=by
 refine ⟨fun r hr=>?_,fun r hr=>?_⟩
 ·by_cases e:r=0
  ·exact ⟨_,if_pos e⟩
  ·exact ⟨_,if_neg e⟩
 ·have e:r=0:=by omega
  subst e
  simp
theorem Qg {g:Nat→List Value} {i D:Nat} (h:AM g (i+1) D) (hi:i+1 < 8) {v:ByteArray} (hv:v=nb (2 ^ i*D+2 ^ i*D)) :
  AM (fun r=>if r=i+1 then [.string v] else g r) (i+1+1) D:=by
 refine ⟨fun r hr=>?_,fun r hr=>?_⟩
 ·by_cases e:r=i+1
  ·exact ⟨_,if_pos e⟩
  ·simp only [if_neg e]; exact h.1 r hr
 ·by_cases e:r=i+1
  ·subst e
   simp only [if_true]
   rw [hv,Nat.pow_succ,Nat.mul_comm (2 ^ i) 2,Nat.mul_assoc,Nat.two_mul]
  ·simp only [if_neg e]; exact h.2 r (by omega)
theorem Er {D k:Nat} (hk:k≤8):aR (2 ^ k*D)≤aR D+1:=gJ (by
 have h1:=kW D
 have J:2 ^ k≤2 ^ 8:=Nat.pow_le_pow_right (by decide) hk
 rw [Nat.pow_succ,Nat.mul_comm (C ^ _)]
 exact Nat.lt_of_le_of_lt (Nat.mul_le_mul_right _ J) (Nat.mul_lt_mul_of_pos_left h1 (by decide)))
theorem acr {k:Nat} (h:k≤7):IntKind.i64.wrap (1*2 ^ min (Int.toNat (IntKind.u64.wrap (k:Int))) IntKind.i64.bits)=((2 ^ k:Nat):Int):=by
 rcases k with _ | _ | _ | _ | _ | _ | _ | _ | k
 all_goals first | rfl | decide | omega
theorem Ta (R:Nat) {s:ByteArray} {i:Nat} (h:i < s.size):ab (nb R++s.extract i (i+1))=R*256+cf s i∧(nb R++s.extract i (i+1)).size=aR R+1:=by
 have e:=Dk (s:=s) (l:=i) (h:=i+1) (by omega) (by omega)
 refine ⟨?_,by rw [ByteArray.size_append,gD,e]; omega⟩
 rw [QW,ia,e,Dp (by omega) (by omega),s4 h]
 rw [show i+1 - i=1 by omega,Nat.pow_one,show s.size - (i+1)=s.size - 1 - i by omega]
/-- The first i rows hold the i digits of Q. -/
def yF (g:Nat→List Value) (n i Q:Nat):Prop:=(∀ r,r < n→∃ x:Int,g r=[.int .u8 x])∧∀ r,r < i→g r=[.int .u8 ((bW Q (i - 1 - r):Nat):Int)]
theorem Q9 (n:Nat):yF (fun _=>[.int .u8 0]) n 0 0:=⟨fun r _=>⟨0,rfl⟩,fun r h=>absurd h (by omega)⟩
theorem LQ {Q d:Nat} (hd:d < 256) (r:Nat):bW (Q*256+d) (r+1)=bW Q r∧bW (Q*256+d) 0=d:=by
 unfold bW
 have e:(Q*256+d) / 256=Q:=by omega
 refine ⟨?_,?_⟩
 ·rw [Nat.pow_succ,Nat.mul_comm (C ^ r) C,← Nat.div_div_eq_div_mul]
  show (Q*256+d) / 256 / _ % _=_
  rw [e]
 ·rw [Nat.pow_zero,Nat.div_one]
  show _ % 256=_
  omega
theorem RT {g:Nat→List Value} {n i Q d:Nat} (h:yF g n i Q) (hi:i < n) (hd:d < 256) :
  yF (fun r=>if r=i then [.int .u8 (d:Nat)] else g r) n (i+1) (Q*256+d):=by
 refine ⟨fun r hr=>?_,fun r hr=>?_⟩
 ·by_cases e:r=i
  ·exact ⟨_,if_pos e⟩
  ·simp only [if_neg e]; exact h.1 r hr
 ·by_cases e:r=i
  ·subst e; simp only [if_true]
   rw [show r+1 - 1 - r=0 by omega,(LQ hd 0).2]
  ·simp only [if_neg e]
   rw [h.2 r (by omega),show i+1 - 1 - r=(i - 1 - r)+1 by omega,(LQ hd _).1]
theorem Tb {g:Nat→List Value} {n Q:Nat} (h:yF g n n Q) (hQ:Q < C ^ n):∃ v:ByteArray,(⟨⟨bytesOf g 0 n⟩⟩:ByteArray)=v∧v.size=n∧nb (ab v)=nb Q :=
 ⟨be n Q,vo fun r hr=>h.2 r hr,vT _ _,Bh hQ⟩
end Go.Ae
/- Integers in canonical form, and what the reference's sums and products make of them. -/
namespace Go.Ae
open Go
theorem vY {B:Bool} {N:Nat} {z:Int} (h1:B=decide (z < 0)) (J:N=z.natAbs):Value.agg ⟨[.bool B,.string (nb N)]⟩=aF z:=by
 subst h1; subst J; rfl
/-- The canonical form of an integer: sign and digits. -/
structure EI (z:Int) (B:Bool) (m:ByteArray):Prop where
 enc:aF z=.agg ⟨[.bool B,.string m]⟩
 sign:B=decide (z < 0)
 ng:m=nb z.natAbs
theorem EI.mk' (z:Int):∃ B m,EI z B m:=⟨_,_,rfl,rfl,rfl⟩
theorem EI.abs {z:Int} {B:Bool} {m:ByteArray} (h:EI z B m):ab m=z.natAbs:=by rw [h.ng,ia]
theorem EI.val {z:Int} {B:Bool} {m:ByteArray} (h:EI z B m):IV.z (B,m)=z:=by
 rw [h.sign,h.ng]; exact Nk z
theorem EI.nil {z:Int} {B:Bool} {m:ByteArray} (h:EI z B m):(m.toList == (⟨#[]⟩:ByteArray).toList)=decide (z=0):=by
 have e:=EW z.natAbs
 rw [← h.ng] at e
 have e2:(m.toList == (⟨#[]⟩:ByteArray).toList)=!(z.natAbs != 0):=by rw [← e,Bool.not_not]
 rw [e2]
 by_cases hz:z=0
 ·subst hz; rfl
 ·have:z.natAbs≠0:=by omega
  rw [decide_eq_false hz]
  simp [this]
theorem EI.nn {z:Int} {B:Bool} {m:ByteArray} (h:EI z B m):(!(m.toList == (⟨#[]⟩:ByteArray).toList))=decide (z≠0):=by
 rw [h.nil]; by_cases hz:z=0 <;> simp [hz]
theorem EI.size {z:Int} {B:Bool} {m:ByteArray} (h:EI z B m):m.size=aR z.natAbs:=by rw [h.ng,gD]
theorem EI.eta {z:Int} {B:Bool} {m:ByteArray} (h:EI z B m):m=nb (ab m):=by rw [h.abs,h.ng]
theorem EI.small {z:Int} {B:Bool} {m:ByteArray} (h:EI z B m) (h7:m.size≤7):-72057594037927936 < z∧z < 72057594037927936:=by
 have:=FC (i:=(B,m)) h7
 rw [h.val] at this
 exact this
theorem EI.same {x y:Int} {B D:Bool} {m k:ByteArray} (h:EI x B m) (J:EI y D k) (e:B=D):Value.agg ⟨[.bool B,.string (nb (ab m+ab k))]⟩=aF (x+y):=by
 have h3:=h.sign
 have h4:=J.sign
 rw [← e] at h4
 refine vY ?_ ?_
 ·cases B
  ·have:=of_decide_eq_false h3.symm
   have:=of_decide_eq_false h4.symm
   exact (decide_eq_false (by omega)).symm
  ·have:=of_decide_eq_true h3.symm
   have:=of_decide_eq_true h4.symm
   exact (decide_eq_true (by omega)).symm
 ·rw [h.abs,J.abs]
  cases B
  ·have:=of_decide_eq_false h3.symm
   have:=of_decide_eq_false h4.symm
   omega
  ·have:=of_decide_eq_true h3.symm
   have:=of_decide_eq_true h4.symm
   omega
theorem EI.differ {x y:Int} {B D:Bool} {m k:ByteArray} (h:EI x B m) (J:EI y D k) (e:B≠D) (ak:ab k < ab m):Value.agg ⟨[.bool B,.string (nb (ab m - ab k))]⟩=aF (x+y):=by
 have h3:=h.sign
 have h4:=J.sign
 rw [h.abs,J.abs] at ak ⊢
 cases B <;> cases D
 ·exact absurd rfl e
 ·have:=of_decide_eq_false h3.symm
  have:=of_decide_eq_true h4.symm
  exact vY (decide_eq_false (by omega)).symm (by omega)
 ·have:=of_decide_eq_true h3.symm
  have:=of_decide_eq_false h4.symm
  exact vY (decide_eq_true (by omega)).symm (by omega)
 ·exact absurd rfl e
theorem EI.equal {x y:Int} {B D:Bool} {m k:ByteArray} (h:EI x B m) (J:EI y D k) (e:B≠D) (ak:ab k=ab m):x+y=0:=by
 have h3:=h.sign
 have h4:=J.sign
 rw [h.abs,J.abs] at ak
 cases B <;> cases D
 ·exact absurd rfl e
 ·have:=of_decide_eq_false h3.symm
  have:=of_decide_eq_true h4.symm
  omega
 ·have:=of_decide_eq_true h3.symm
  have:=of_decide_eq_false h4.symm
  omega
 ·exact absurd rfl e
theorem EI.mul {x y:Int} {B D:Bool} {m k:ByteArray} (h:EI x B m) (J:EI y D k) (hx:x≠0) (hy:y≠0):Value.agg ⟨[.bool (B != D),.string (nb (ab m*ab k))]⟩=aF (x*y):=by
 have h3:=h.sign
 have h4:=J.sign
 rw [h.abs,J.abs]
 refine vY ?_ (by rw [Int.natAbs_mul])
 have hm:x*y < 0↔¬ ((x < 0)↔(y < 0)):=by
  rcases Int.lt_or_gt_of_ne hx with a | a <;> rcases Int.lt_or_gt_of_ne hy with b | b
  ·have:=Int.mul_pos_of_neg_of_neg a b
   constructor
   ·intro; omega
   ·intro h; exact absurd ⟨fun _=>b,fun _=>a⟩ h
  ·have:=Int.mul_neg_of_neg_of_pos a b
   constructor
   ·intro _ h; have:=h.1 a; omega
   ·intro; exact this
  ·have:=Int.mul_neg_of_pos_of_neg a b
   constructor
   ·intro _ h; have:=h.2 b; omega
   ·intro; exact this
  ·have:=Int.mul_pos a b
   constructor
   ·intro; omega
   ·intro h; exact absurd ⟨fun q=>by omega,fun q=>by omega⟩ h
 rw [h3,h4]
 by_cases a:x < 0 <;> by_cases b:y < 0 <;> simp [a,b,hm]
theorem EI.bc {z:Int} {B:Bool} {m:ByteArray} (h:EI z B m):Go.Ae.bc B (ab m)=z:=h.val
theorem EY {x y zq zr:Int} {B D:Bool} {m k:ByteArray} (hE:EI x B m) (hF:EI y D k) (hy:y≠0) (h:B=D) (hq:zq=((ab m / ab k:Nat):Int)) (hr:zr=((ab m % ab k:Nat):Int)) :
  zq=Int.fdiv x y∧(if D=true then -zr else zr)=Int.fmod x y:=by
 have hk:0 < ab k:=by rw [hF.abs]; omega
 obtain ⟨h1,J⟩:=vC (b:=B) (c:=D) (A:=ab m) hk (.inr h)
 rw [hE.bc,hF.bc] at h1 J
 rw [h1,J,hq,hr,h]
 cases D <;> exact ⟨rfl,rfl⟩
theorem Es {x y zq zr:Int} {B D:Bool} {m k:ByteArray} (hE:EI x B m) (hF:EI y D k) (hy:y≠0) (h:B≠D) (hq:zq=((ab m / ab k:Nat):Int)) (hr:zr=((ab m % ab k:Nat):Int)) (h0:zr=0) :
  -zq=Int.fdiv x y∧(if D=true then -zr else zr)=Int.fmod x y:=by
 have hk:0 < ab k:=by rw [hF.abs]; omega
 have h3:ab m % ab k=0:=by rw [h0] at hr; omega
 obtain ⟨h1,J⟩:=vC (b:=B) (c:=D) (A:=ab m) hk (.inl h3)
 rw [hE.bc,hF.bc] at h1 J
 rw [h1,J,hq,h0,h3]
 refine ⟨?_,?_⟩
 ·cases B <;> cases D
  ·exact absurd rfl h
  ·rfl
  ·rfl
  ·exact absurd rfl h
 ·cases B <;> cases D <;> rfl
theorem EZ {x y zq zr:Int} {B D:Bool} {m k:ByteArray} (hE:EI x B m) (hF:EI y D k) (hy:y≠0) (h:B≠D) (hq:zq=((ab m / ab k:Nat):Int)) (hr:zr=((ab m % ab k:Nat):Int)) (h0:zr≠0) :
  -zq - 1=Int.fdiv x y∧(if D=true then -(((ab k:Nat):Int) - zr) else ((ab k:Nat):Int) - zr)=Int.fmod x y:=by
 have hk:0 < ab k:=by rw [hF.abs]; omega
 obtain ⟨h1,J⟩:=DQ (b:=B) (c:=D) (A:=ab m) hk (by omega) h
 rw [hE.bc,hF.bc] at h1
 rw [hE.bc] at J
 rw [hF.bc] at J
 rw [h1,J,hq,hr]
 refine ⟨?_,?_⟩
 ·cases B <;> cases D
  ·exact absurd rfl h
  ·rfl
  ·rfl
  ·exact absurd rfl h
 ·have hv:=hF.bc
  cases B <;> cases D
  ·exact absurd rfl h
  ·rw [← hv]; unfold Go.Ae.bc; simp only [if_true]; simp; omega
  ·rw [← hv]; unfold Go.Ae.bc; simp only [if_true]; simp; omega
  ·exact absurd rfl h
theorem EI.iS {z:Int} (h:0≤z):∃ m,EI z false m:=⟨_,(vY (decide_eq_false (by omega)).symm rfl).symm,(decide_eq_false (by omega)).symm,rfl⟩
theorem LR {n:Nat} (h:n < 72057594037927936):IntKind.i64.wrap (n:Int)=n:=au (by omega) (by omega)
theorem Ql {x y:Int} (h:aR x.natAbs+aR y.natAbs < 8):-9223372036854775808≤x*y∧x*y < 9223372036854775808:=by
 have h1:=kW x.natAbs
 have J:=kW y.natAbs
 have h3:x.natAbs*y.natAbs < C ^ (aR x.natAbs+aR y.natAbs):=by
  rw [Nat.pow_add]
  exact Nat.lt_of_le_of_lt (Nat.mul_le_mul_right _ (Nat.le_of_lt h1)) (Nat.mul_lt_mul_of_pos_left J (gR _))
 have h4:=nI (i:=aR x.natAbs+aR y.natAbs) (by omega)
 rw [← Int.natAbs_mul] at h3
 omega
end Go.Ae
/- Rational numbers: their canonical form, and the contracts over it. -/
namespace Go.Ae
open Go
def fK (d:Nat):ByteArray:=if d=1 then ⟨#[]⟩ else nb d
/-- The canonical number of a value. -/
def bM (q:Rat):Value:=.agg ⟨[.bool (decide (q.num < 0)),.string (nb q.num.natAbs),.string (fK q.den)]⟩
abbrev RV:=Bool × ByteArray × ByteArray
def RV.v (i:RV):Value:=.agg ⟨[.bool i.1,.string i.2.1,.string i.2.2]⟩
def RV.n (i:RV):Int:=bc i.1 (ab i.2.1)
def RV.d (i:RV):Nat:=if ab i.2.2=0 then 1 else ab i.2.2
def RV.q (i:RV):Rat:=mkRat i.n i.d
def RV.ok (i:RV):Prop:=i.2.1.size≤8589934592∧i.2.2.size≤8589934592
def RV.of (q:Rat):RV:=(decide (q.num < 0),nb q.num.natAbs,fK q.den)
theorem RV.jK (i:RV):i.d≠0:=by
 unfold RV.d
 split <;> omega
theorem Tc {d:Nat} (h:d≠0):(if ab (fK d)=0 then 1 else ab (fK d))=d:=by
 unfold fK
 split
 ·rename_i e; rw [e]; rfl
 ·rw [ia,if_neg h]
theorem RV.OC (q:Rat):(RV.of q).n=q.num:=by
 exact Nk q.num
theorem RV.OD (q:Rat):(RV.of q).d=q.den:=Tc q.den_nz
theorem RV.ik (q:Rat):(RV.of q).q=q:=by
 unfold RV.q
 rw [RV.OC,RV.OD,Rat.mkRat_self]
theorem Gb (n:Int) {d:Nat} (h:d≠0):n.fdiv ((Int.gcd n d:Nat):Int)=(mkRat n d).num:=by
 rw [Rat.num_mkRat,if_neg h,Int.fdiv_eq_ediv_of_nonneg _ (by omega)]
 rw [Int.gcd_comm]; rfl
theorem Gc (n:Int) {d:Nat} (h:d≠0):((d:Nat):Int).fdiv ((Int.gcd n d:Nat):Int)=(((mkRat n d).den:Nat):Int):=by
 rw [Rat.den_mkRat,if_neg h,Int.fdiv_eq_ediv_of_nonneg _ (by omega),Int.natCast_ediv]
 rw [Int.gcd_comm]; rfl
theorem Yu (n:Int) {d:Nat} (h:d≠0):(mkRat n d).num.natAbs≤n.natAbs:=by
 rw [Rat.num_mkRat,if_neg h]
 exact Int.natAbs_ediv_le_natAbs n _
theorem Nl (n:Int) {d:Nat} (h:d≠0):(mkRat n d).den≤d:=by
 rw [Rat.den_mkRat,if_neg h]
 exact Nat.div_le_self _ _
/-- How many bytes a number takes at most. -/
def QB (q:Rat) (k:Nat):Prop:=aR q.num.natAbs≤k∧aR q.den≤k
theorem vZ (a b:Nat):aR (a*b)≤aR a+aR b:=gJ (by
 rw [Nat.pow_add]
 exact Nat.lt_of_le_of_lt (Nat.mul_le_mul_right _ (Nat.le_of_lt (kW a))) (Nat.mul_lt_mul_of_pos_left (kW b) (gR _)))
theorem MF {a b k:Nat} (ha:aR a≤k) (hb:aR b≤k):aR (a+b)≤k+1:=gJ (by
 have h1:=Nat.lt_of_lt_of_le (kW a) (Nat.pow_le_pow_right (n:=C) (by decide) ha)
 have J:=Nat.lt_of_lt_of_le (kW b) (Nat.pow_le_pow_right (n:=C) (by decide) hb)
 rw [Nat.pow_succ]
 show _ < C ^ k*256
 omega)
theorem QB.mk {n:Int} {d k:Nat} (hd:d≠0) (h1:aR n.natAbs≤k) (J:aR d≤k):QB (mkRat n d) k :=
 ⟨Nat.le_trans (iO (Yu n hd)) h1,Nat.le_trans (iO (Nl n hd)) J⟩
theorem QB.mono {q:Rat} {k l:Nat} (h:QB q k) (hl:k≤l):QB q l:=⟨Nat.le_trans h.1 hl,Nat.le_trans h.2 hl⟩
theorem QB.add {p q:Rat} {k l:Nat} (hp:QB p k) (hq:QB q l):QB (p+q) (k+l+1):=by
 rw [Rat.add_def']
 refine QB.mk (Nat.mul_ne_zero p.den_nz q.den_nz) ?_ ?_
 ·have h1:aR (p.num*q.den).natAbs≤k+l:=by
   rw [Int.natAbs_mul]; exact Nat.le_trans (vZ _ _) (Nat.add_le_add hp.1 hq.2)
  have J:aR (q.num*p.den).natAbs≤k+l:=by
   rw [Int.natAbs_mul]; exact Nat.le_trans (vZ _ _) (by rw [Nat.add_comm k]; exact Nat.add_le_add hq.1 hp.2)
  exact Nat.le_trans (iO (Int.natAbs_add_le _ _)) (MF h1 J)
 ·exact Nat.le_trans (vZ _ _) (Nat.le_succ_of_le (Nat.add_le_add hp.2 hq.2))
theorem QB.neg {p:Rat} {k:Nat} (hp:QB p k):QB (-p) k:=⟨by rw [Rat.neg_num,Int.natAbs_neg]; exact hp.1,hp.2⟩
theorem QB.sub {p q:Rat} {k l:Nat} (hp:QB p k) (hq:QB q l):QB (p - q) (k+l+1):=by
 rw [Rat.sub_eq_add_neg]; exact hp.add hq.neg
theorem QB.mul {p q:Rat} {k l:Nat} (hp:QB p k) (hq:QB q l):QB (p*q) (k+l):=by
 rw [Rat.mul_def']
 refine QB.mk (Nat.mul_ne_zero p.den_nz q.den_nz) ?_ (Nat.le_trans (vZ _ _) (Nat.add_le_add hp.2 hq.2))
 rw [Int.natAbs_mul]; exact Nat.le_trans (vZ _ _) (Nat.add_le_add hp.1 hq.1)
theorem RV.qb {i:RV} {k:Nat} (h1:i.2.1.size≤k) (J:i.2.2.size≤k) (hk:1≤k):QB i.q k:=by
 refine QB.mk i.jK ?_ ?_
 ·unfold RV.n
  rw [tb]
  exact Nat.le_trans (jb _) h1
 ·unfold RV.d
  split
  ·exact Nat.le_trans (gJ (show 1 < C ^ 1 by decide)) hk
  ·exact Nat.le_trans (jb _) J
theorem Lg {d k:Nat} (h:aR d≤k):(fK d).size≤k:=by
 unfold fK
 split
 ·exact Nat.zero_le _
 ·rw [gD]; exact h
theorem RV.rJ {q:Rat} (h:QB q 8589934592):(RV.of q).ok:=⟨by show (nb _).size≤_; rw [gD]; exact h.1,Lg h.2⟩
end Go.Ae
/- Contracts of rational, and of the reference rationals. -/
namespace Go.Ae
open Go
def wJ (n d:IV):Value:=.agg ⟨[.bool n.1,.string n.2,.bool d.1,.string d.2]⟩
def gY:bG:={ ι:=IV × Int,args:=fun i=>[i.1.v,.int .i64 i.2],pre:=fun i=>i.1.ok∧-9223372036854775808≤i.2∧i.2 < 9223372036854775808,val:=fun i=>.bool (decide (i.1.z=i.2)) }
def LS:bG:={ ι:=IV,args:=fun i=>[.bool i.1,.string i.2],pre:=fun _=>True,val:=fun i=>i.v }
/-- The denominator that stands in for none. -/
def RV.den (i:RV):ByteArray:=if ab i.2.2=0 then nb 1 else i.2.2
def lF:bG:={ ι:=RV,args:=fun i=>[i.v],pre:=fun i=>i.2.2.size≤549755813888,val:=fun i=>wJ (i.1,i.2.1) (false,i.den) }
def oh:bG:={ ι:=IV × IV,args:=fun i=>[wJ i.1 i.2],pre:=fun i=>i.1.ok∧i.2.ok∧0 < i.2.z,val:=fun i=>bM (mkRat i.1.z i.2.z.natAbs) }
def ph:bG:={ ι:=IV × IV,args:=fun i=>[i.1.v,i.2.v],pre:=fun i=>i.1.ok∧i.2.ok∧0 < i.2.z,val:=fun i=>bM (mkRat i.1.z i.2.z.natAbs) }
def RV.fY (i:RV):Prop:=i.2.1.size≤3∧i.2.2.size≤3
instance (i:RV):Decidable i.fY:=inferInstanceAs (Decidable (_∧_))
def bH:bG:={ ι:=RV,args:=fun i=>[i.v],pre:=fun _=>True,val:=fun i=>.tuple ⟨[.int .i64 (if i.fY then i.n else 0),.int .i64 (if i.fY then (i.d:Int) else 0),.bool (decide i.fY)]⟩ }
def rK:bG:={ ι:=Nat,args:=fun n=>[.int .i64 n],pre:=fun n=>n < 72057594037927936,val:=fun n=>.string (nb n) }
def nr:bG:={ ι:=Int × Nat,args:=fun i=>[.int .i64 i.1,.int .i64 i.2],pre:=fun i=>i.1.natAbs < 72057594037927936∧i.2≠0∧i.2 < 72057594037927936,val:=fun i=>bM (mkRat i.1 i.2) }
def nt:bG:={ ι:=RV,args:=fun i=>[i.v],pre:=RV.ok,val:=fun i=>.tuple ⟨[aF i.n,aF i.d]⟩ }
abbrev nh:=RV × RV
def nh.ok (i:nh):Prop:=i.1.ok∧i.2.ok
def aY (p q:Rat):Int:=if p < q then -1 else if q < p then 1 else 0
def lf:bG:={ ι:=nh,args:=fun i=>[i.1.v,i.2.v],pre:=nh.ok,val:=fun i=>bM (i.1.q+i.2.q) }
def gL:bG:={ ι:=nh,args:=fun i=>[i.1.v,i.2.v],pre:=nh.ok,val:=fun i=>bM (i.1.q - i.2.q) }
def lg:bG:={ ι:=nh,args:=fun i=>[i.1.v,i.2.v],pre:=nh.ok,val:=fun i=>bM (i.1.q*i.2.q) }
def jL:bG:={ ι:=nh,args:=fun i=>[i.1.v,i.2.v],pre:=nh.ok,val:=fun i=>.int .i64 (aY i.1.q i.2.q) }
def ym:bG:={ ι:=RV,args:=fun i=>[i.v],pre:=RV.ok,val:=fun i=>bM i.q }
def mr:bG:={ ι:=Int,args:=fun n=>[.int .i64 n],pre:=fun n=>-9223372036854775808≤n∧n < 9223372036854775808,val:=fun n=>bM (n:Rat) }
theorem RV.Gd {i:RV} (h:i.fY):-16777216 < i.n∧i.n < 16777216:=by
 have h1:=gw i.2.1
 have J:C ^ i.2.1.size≤C ^ 3:=Nat.pow_le_pow_right (by decide) h.1
 have h3:ab i.2.1 < 16777216:=Nat.lt_of_lt_of_le h1 J
 unfold RV.n
 unfold bc
 split <;> omega
theorem RV.Ge {i:RV} (h:i.fY):0 < i.d∧i.d < 16777216:=by
 have h1:=gw i.2.2
 have J:C ^ i.2.2.size≤C ^ 3:=Nat.pow_le_pow_right (by decide) h.2
 have h3:ab i.2.2 < 16777216:=Nat.lt_of_lt_of_le h1 J
 unfold RV.d
 split <;> omega
theorem RV.jM (i:RV):IV.z (false,i.den)=((i.d:Nat):Int):=by
 show ((ab i.den:Nat):Int)=_
 unfold RV.den RV.d
 split
 ·rw [ia]
 ·rfl
theorem RV.q7 (i:RV):i.den.size≤i.2.2.size+1:=by
 unfold RV.den
 split
 ·exact Nat.le_trans Ga (Nat.le_add_left _ _)
 ·exact Nat.le_succ _
theorem RV.acs (i:RV):i.q=mkRat i.n (IV.z (false,i.den)).natAbs:=by rw [RV.jM]; rfl
theorem JX {a b:Int} (h1:-16777216 < a∧a < 16777216) (J:0 < b∧b < 16777216):-281474976710656 < a*b∧a*b < 281474976710656:=by
 have h3:(a*b).natAbs≤16777215*16777215:=by
  rw [Int.natAbs_mul]
  exact Nat.mul_le_mul (by omega) (by omega)
 omega
theorem GL (a b:RV):a.q+b.q=mkRat (a.n*b.d+b.n*a.d) (a.d*b.d):=Rat.mkRat_add_mkRat _ _ a.jK b.jK
theorem GM (a b:RV):a.q*b.q=mkRat (a.n*b.n) (a.d*b.d):=Rat.mkRat_mul_mkRat _ _ _ _
theorem xS (i:RV):i.q=(i.n:Rat) / ((i.d:Nat):Rat):=Rat.mkRat_eq_div _ _
theorem natCast_pos {d:Nat} (h:d≠0):(0:Rat) < ((d:Nat):Rat):=by
 have:((0:Nat):Rat) < ((d:Nat):Rat):=Rat.natCast_lt_natCast.2 (by omega)
 exact this
theorem acu (a b:RV):a.q < b.q↔a.n*b.d < b.n*a.d:=by
 have ha:=natCast_pos a.jK
 have hb:=natCast_pos b.jK
 have e:a.q < b.q↔(a.n:Rat)*((b.d:Nat):Rat) < (b.n:Rat)*((a.d:Nat):Rat):=by
  rw [xS,xS,Rat.div_lt_iff ha]
  rw [show (b.n:Rat) / ((b.d:Nat):Rat)*((a.d:Nat):Rat)=((b.n:Rat)*((a.d:Nat):Rat)) / ((b.d:Nat):Rat) by
   rw [Rat.div_def,Rat.div_def]; grind]
  rw [Rat.lt_div_iff hb]
 rw [e,← Rat.intCast_natCast,← Rat.intCast_natCast,← Rat.intCast_mul,← Rat.intCast_mul,Rat.intCast_lt_intCast]
theorem BX (a b:RV):aY a.q b.q=dP (a.n*b.d) (b.n*a.d):=by
 unfold aY dP
 simp only [acu]
theorem aaU (i:RV):-i.q=RV.q (!i.1,i.2):=by
 show -mkRat i.n i.d=mkRat (bc (!i.1) (ab i.2.1)) i.d
 rw [EV,Rat.neg_mkRat]
 rfl
theorem ik (n:Int):((n:Int):Rat)=mkRat n 1:=by
 have h:=Rat.mkRat_self ((n:Int):Rat)
 rw [Rat.num_intCast,Rat.den_intCast] at h
 exact h.symm
theorem OE {n e:Nat} (k:Int) (hk:k=((8*e:Nat):Int)) (he:e≤7):Int.fdiv (n:Int) (2 ^ min (Int.toNat k) IntKind.i64.bits)=((n / C ^ e:Nat):Int):=by
 subst hk
 have e1:min (Int.toNat ((8*e:Nat):Int)) IntKind.i64.bits=8*e:=by
  show min (8*e) 64=8*e
  omega
 rw [e1]
 have e2:(2:Int) ^ (8*e)=((C ^ e:Nat):Int):=by
  rw [show C=2 ^ 8 from rfl,← Nat.pow_mul,Int.natCast_pow]; rfl
 rw [e2,Int.fdiv_eq_ediv_of_nonneg _ (Int.natCast_nonneg _),Int.natCast_ediv]
theorem aaV {n:Nat} (h:n < 72057594037927936):n / C ^ 7=0:=Nat.div_eq_of_lt h
theorem VN {P d m:Nat} (h:P < C ^ m) (hd:d < 256):P*256+d < C ^ (m+1):=by
 rw [Nat.pow_succ]
 show _ < C ^ m*256
 omega
theorem VO {P d m:Nat} (h:C ^ (m - 1)≤P) (hm:1≤m):C ^ (m+1 - 1)≤P*256+d:=by
 rw [show m+1 - 1=m - 1+1 by omega,Nat.pow_succ]
 show C ^ (m - 1)*256≤_
 omega
theorem Lh {P Q D m:Nat} {g:Nat→List Value} (h:P=Q*256+D) (hD:D < 256) (hg:∀ r,r < m→g r=[.int .u8 ((Q / C ^ (m - 1 - r) % C:Nat):Int)]) (r:Nat) (hr:r < m+1) :
  iB g m (fun j=>[[Value.int .u8 ((P % C:Nat):Int)]].getD j []) r=[.int .u8 ((P / C ^ (m+1 - 1 - r) % C:Nat):Int)]:=by
 by_cases h1:r < m
 ·rw [jc h1,hg r h1,show m+1 - 1 - r=(m - 1 - r)+1 by omega,Nat.pow_succ,Nat.mul_comm (C ^ _) C,← Nat.div_div_eq_div_mul,show P / C=Q by rw [h]; show (Q*256+D) / 256=Q; omega]
 ·obtain rfl:r=m:=by omega
  rw [gu (Nat.le_refl _),Nat.sub_self,show r+1 - 1 - r=0 by omega,Nat.pow_zero,Nat.div_one]
  rfl
theorem FF {n:Int} {d g:Nat} (hn:n≠0) (hd:d≠0) (hg:g=Int.gcd n d):bM (mkRat n d)=.agg ⟨[.bool (decide (n < 0)),.string (nb (n.natAbs / g)),.string (fK (d / g))]⟩:=by
 have ni:0 < g:=by
  rw [hg]; exact Int.gcd_pos_of_ne_zero_left _ hn
 have e1:(mkRat n d).num=n / (g:Int):=by rw [← Gb n hd,← hg,Int.fdiv_eq_ediv_of_nonneg _ (by omega)]
 have e2:(mkRat n d).den=d / g:=by
  have:=Gc n hd
  rw [← hg,Int.fdiv_eq_ediv_of_nonneg _ (by omega),← Int.natCast_ediv] at this
  exact (Int.ofNat_inj.1 this).symm
 have CX:(g:Int) ∣ n:=by rw [hg]; exact Int.gcd_dvd_left ..
 obtain ⟨q,hq⟩:=CX
 have e3:n / (g:Int)=q:=by rw [hq]; exact Int.mul_ediv_cancel_left _ (by omega)
 have e4:n.natAbs / g=q.natAbs:=by
  rw [hq,Int.natAbs_mul,Int.natAbs_natCast]; exact Nat.mul_div_cancel_left _ ni
 have e5:n < 0↔q < 0:=by
  rw [hq]
  constructor
  ·intro h
   rcases Int.lt_or_le q 0 with J | J
   ·exact J
   ·have:=Int.mul_nonneg (show (0:Int)≤g by omega) J
    omega
  ·intro h; exact Int.mul_neg_of_pos_of_neg (by omega) h
 unfold bM
 rw [e1,e2,e3,e4]
 rw [show decide (n < 0)=decide (q < 0) from by simp only [e5]]
theorem xL (d:Nat):bM (mkRat 0 d)=.agg ⟨[.bool false,.string ⟨#[]⟩,.string ⟨#[]⟩]⟩:=by
 rw [Rat.zero_mkRat]
 show Value.agg ⟨[.bool false,.string (nb 0),.string (fK 1)]⟩=_
 rw [pf]
 rfl
theorem Us {a b:Int}:Int.gcd b (a.tmod b)=Int.gcd a b:=by
 show Nat.gcd b.natAbs (a.tmod b).natAbs=Nat.gcd a.natAbs b.natAbs
 rw [Int.natAbs_tmod,Nat.gcd_comm,← Nat.gcd_rec,Nat.gcd_comm]
theorem MG (a:Int) (h:-72057594037927936 < a∧a < 72057594037927936):(if IntKind.i64.wrap (0 - a) > a then IntKind.i64.wrap (0 - a) else a)=((a.natAbs:Nat):Int):=by
 rw [au (x:=0 - a) (by omega) (by omega)]
 split <;> omega
theorem AN {a g:Nat} (h:a < 72057594037927936):IntKind.i64.wrap (Int.tdiv (a:Int) (g:Int))=((a / g:Nat):Int):=by
 rw [EU]; exact LR (Nat.lt_of_le_of_lt (Nat.div_le_self _ _) h)
theorem Ag {n:Int} {d g:Nat} (hd:d≠0) (hg:g=Int.gcd n d):(d / g=1↔d=g)∧1≤d / g∧g≠0:=by
 have CX:g ∣ d:=by
  have:((g:Nat):Int) ∣ (d:Int):=by rw [hg]; exact Int.gcd_dvd_right ..
  exact Int.natCast_dvd_natCast.1 this
 have ni:0 < g:=Nat.pos_of_dvd_of_pos CX (Nat.pos_of_ne_zero hd)
 obtain ⟨q,rfl⟩:=CX
 rw [Nat.mul_div_cancel_left _ ni]
 have hq:q≠0:=by intro e; subst e; exact hd (Nat.mul_zero _)
 refine ⟨⟨fun h=>by rw [h,Nat.mul_one],fun h=>?_⟩,by omega,by omega⟩
 have:g*q=g*1:=by rw [Nat.mul_one]; exact h
 exact Nat.eq_of_mul_eq_mul_left ni this
theorem r0:-9223372036854775808≤(0:Int)∧(0:Int) < 9223372036854775808:=by decide
theorem r1:-9223372036854775808≤(1:Int)∧(1:Int) < 9223372036854775808:=by decide
theorem tw {n:Int} (h:-9223372036854775808≤n∧n < 9223372036854775808):aR n.natAbs≤8:=gJ (Nat.lt_of_le_of_lt (show n.natAbs≤9223372036854775808 by omega) (by decide))
theorem JY (n e:Nat):n / C ^ e=n / C ^ (e+1)*256+n / C ^ e % 256:=by
 have:=Dr n e
 omega
/-! what is made of four machine integers, or of two fractions -/
abbrev I4:=(Int × Nat) × (Int × Nat)
def I4.args (i:I4):List Value:=[.int .i64 i.1.1,.int .i64 i.1.2,.int .i64 i.2.1,.int .i64 i.2.2]
def jN (i:Int × Nat):Prop:=(-16777216 < i.1∧i.1 < 16777216)∧0 < i.2∧i.2 < 16777216
def I4.ok (i:I4):Prop:=jN i.1∧jN i.2
def BY:bG:={ ι:=I4,args:=I4.args,pre:=I4.ok,val:=fun i=>bM (mkRat (i.1.1*i.2.2+i.2.1*i.1.2) (i.1.2*i.2.2)) }
def BZ:bG:={ ι:=I4,args:=I4.args,pre:=I4.ok,val:=fun i=>bM (mkRat (i.1.1*i.2.1) (i.1.2*i.2.2)) }
def yG:bG:={ ι:=I4,args:=I4.args,pre:=I4.ok,val:=fun i=>.int .i64 (dP (i.1.1*i.2.2) (i.2.1*i.1.2)) }
abbrev FV:=(IV × IV) × (IV × IV)
def FV.args (i:FV):List Value:=[wJ i.1.1 i.1.2,wJ i.2.1 i.2.2]
def l9 (i:IV × IV):Prop:=(i.1.2.size≤17179869184∧i.2.2.size≤17179869184)∧0 < i.2.z
def FV.ok (i:FV):Prop:=l9 i.1∧l9 i.2
def wK:bG:={ ι:=FV,args:=FV.args,pre:=FV.ok,val:=fun i=>bM (mkRat (i.1.1.z*i.2.2.z+i.2.1.z*i.1.2.z) (i.1.2.z*i.2.2.z).natAbs) }
def wL:bG:={ ι:=FV,args:=FV.args,pre:=FV.ok,val:=fun i=>bM (mkRat (i.1.1.z*i.2.1.z) (i.1.2.z*i.2.2.z).natAbs) }
def wM:bG:={ ι:=FV,args:=FV.args,pre:=FV.ok,val:=fun i=>.int .i64 (dP (i.1.1.z*i.2.2.z) (i.2.1.z*i.1.2.z)) }
theorem I4.bounds {i:I4} (h:i.ok):(-281474976710656 < i.1.1*i.2.2∧i.1.1*i.2.2 < 281474976710656)∧(-281474976710656 < i.2.1*i.1.2∧i.2.1*i.1.2 < 281474976710656)∧(-281474976710656 < i.1.1*i.2.1∧i.1.1*i.2.1 < 281474976710656)∧0 < i.1.2*i.2.2∧i.1.2*i.2.2 < 281474976710656:=by
 obtain ⟨⟨h1,J⟩,h3,h4⟩:=h
 refine ⟨JX h1 ⟨by omega,by omega⟩,JX h3 ⟨by omega,by omega⟩,?_,Nat.mul_pos J.1 h4.1,?_⟩
 ·have:(i.1.1*i.2.1).natAbs≤16777215*16777215:=by
   rw [Int.natAbs_mul]
   exact Nat.mul_le_mul (by omega) (by omega)
  omega
 ·have:i.1.2*i.2.2≤16777215*16777215:=Nat.mul_le_mul (by omega) (by omega)
  omega
/-- A product's digits. -/
theorem EI.gC {x y:Int} {B:Bool} {m:ByteArray} {k l:Nat} (h:EI (x*y) B m) (hx:aR x.natAbs≤k) (hy:aR y.natAbs≤l):m.size≤k+l:=by
 rw [h.size,Int.natAbs_mul]
 exact Nat.le_trans (vZ _ _) (Nat.add_le_add hx hy)
theorem EI.E2 {x y:Int} {B:Bool} {m:ByteArray} {k:Nat} (h:EI (x+y) B m) (hx:aR x.natAbs≤k) (hy:aR y.natAbs≤k):m.size≤k+1:=by
 rw [h.size]
 exact Nat.le_trans (iO (Int.natAbs_add_le _ _)) (MF hx hy)
theorem dI {b:Bool} {s:ByteArray} {k:Nat} (h:s.size≤k):aR (IV.z (b,s)).natAbs≤k:=by
 unfold IV.z
 rw [tb]
 exact Nat.le_trans (jb s) h
/-- The two arguments of a function of rationals, as the fast and the slow way see them. -/
theorem RV.jN {i:RV} (h:i.fY):Go.Ae.jN (i.n,i.d):=⟨i.Gd h,i.Ge h⟩
theorem RV.l9 {i:RV} (h:i.ok):Go.Ae.l9 ((i.1,i.2.1),(false,i.den)):=⟨⟨by have:=h.1; show i.2.1.size≤_; omega,by have:=i.q7; have:=h.2; show i.den.size≤_; omega⟩,by
 show 0 < IV.z (false,i.den)
 rw [RV.jM]
 have:=i.jK
 omega⟩
theorem Yv (a b:RV):BY.val ((a.n,a.d),(b.n,b.d))=bM (a.q+b.q):=by rw [GL]; rfl
theorem Yw (a b:RV):BZ.val ((a.n,a.d),(b.n,b.d))=bM (a.q*b.q):=by rw [GM]; rfl
theorem Yx (a b:RV):yG.val ((a.n,a.d),(b.n,b.d))=.int .i64 (aY a.q b.q):=by rw [BX]; rfl
theorem JZ (a b:RV):(IV.z (false,a.den)*IV.z (false,b.den)).natAbs=a.d*b.d:=by
 rw [RV.jM,RV.jM,← Int.natCast_mul,Int.natAbs_natCast]
theorem Yy (a b:RV):wK.val (((a.1,a.2.1),(false,a.den)),((b.1,b.2.1),(false,b.den)))=bM (a.q+b.q):=by
 show bM (mkRat (IV.z (a.1,a.2.1)*IV.z (false,b.den)+IV.z (b.1,b.2.1)*IV.z (false,a.den)) (IV.z (false,a.den)*IV.z (false,b.den)).natAbs)=_
 rw [JZ,RV.jM,RV.jM,GL]
 rfl
theorem Yz (a b:RV):wL.val (((a.1,a.2.1),(false,a.den)),((b.1,b.2.1),(false,b.den)))=bM (a.q*b.q):=by
 show bM (mkRat (IV.z (a.1,a.2.1)*IV.z (b.1,b.2.1)) (IV.z (false,a.den)*IV.z (false,b.den)).natAbs)=_
 rw [JZ,GM]
 rfl
theorem YA (a b:RV):wM.val (((a.1,a.2.1),(false,a.den)),((b.1,b.2.1),(false,b.den)))=.int .i64 (aY a.q b.q):=by
 show Value.int .i64 (dP (IV.z (a.1,a.2.1)*IV.z (false,b.den)) (IV.z (b.1,b.2.1)*IV.z (false,a.den)))=_
 rw [RV.jM,RV.jM,BX]
 rfl
end Go.Ae
/- Contracts of rational: signs, checks, quotients. -/
namespace Go.Ae
open Go
def iD:bG:={ ι:=RV,args:=fun i=>[i.v],pre:=RV.ok,val:=fun i=>.int .i64 (aY i.q 0) }
def mI:bG:={ ι:=RV,args:=fun i=>[i.v],pre:=RV.ok,val:=fun i=>.int .i64 (if i=RV.of i.q then 0 else 1) }
def lG (n d:Int):Value:=.tuple ⟨[bM (Rat.divInt n d),.int .i64 (if d=0 then 10 else 0)]⟩
def tY:bG:={ ι:=ku,args:=fun i=>[i.1.v,i.2.v],pre:=ku.ok,val:=fun i=>lG i.1.z i.2.z }
def FG:bG:={ ι:=Int × Int,args:=fun i=>[.int .i64 i.1,.int .i64 i.2],pre:=fun i=>(-9223372036854775808≤i.1∧i.1 < 9223372036854775808)∧-9223372036854775808≤i.2∧i.2 < 9223372036854775808,val:=fun i=>lG i.1 i.2 }
theorem YB (i:RV):aY i.q 0=dP i.n 0:=by
 have h:=BX i (RV.of 0)
 rw [RV.ik,RV.OC,RV.OD] at h
 rw [h]
 show dP (i.n*1) (0*_)=_
 rw [Int.mul_one,Int.zero_mul]
theorem Dy (i j:RV):eT [.bool i.1,.string i.2.1,.string i.2.2] [.bool j.1,.string j.2.1,.string j.2.2]=decide (i=j):=by
 obtain ⟨a,b,c⟩:=i
 obtain ⟨a',b',c'⟩:=j
 simp only [eT,Bool.and_true,pC]
 by_cases h1:a=a' <;> by_cases J:b=b' <;> by_cases h3:c=c' <;> simp [h1,J,h3]
theorem Kx {n d:Int} (h:0 < d):Rat.divInt n d=mkRat n d.natAbs:=by
 obtain ⟨k,rfl⟩:∃ k:Nat,d=k:=⟨d.natAbs,by omega⟩
 rw [Rat.divInt_ofNat,Int.natAbs_natCast]
theorem Ra {n d:Int} (h:d < 0):Rat.divInt n d=mkRat (-n) (-d).natAbs:=by
 rw [← Rat.neg_divInt_neg,Kx (by omega)]
theorem Nm (b:Bool) (s t:ByteArray):RV.q (!b,s,t)=-RV.q (b,s,t):=(aaU (b,s,t)).symm
theorem aaW:bM 0=.agg ⟨[.bool false,.string ⟨#[]⟩,.string ⟨#[]⟩]⟩:=by
 have:=xL 1
 rwa [Rat.zero_mkRat] at this
def OF (q:Rat):Rat:=if q < 0 then -q else q
def RV.yH (i:RV):Prop:=60 < i.2.1.size∨60 < i.2.2.size
instance (i:RV):Decidable i.yH:=inferInstanceAs (Decidable (_∨_))
theorem vO {p q:Rat}:aY p q > 0↔q < p:=by
 unfold aY
 split
 ·rename_i h
  constructor
  ·intro J; exact absurd J (by decide)
  ·intro J; grind
 ·split
  ·exact ⟨fun _=>by assumption,fun _=>by decide⟩
  ·exact ⟨fun h=>absurd h (by decide),fun h=>by contradiction⟩
theorem E3 {p q:Rat}:aY p q < 0↔p < q:=by
 unfold aY
 split
 ·exact ⟨fun _=>by assumption,fun _=>by decide⟩
 ·split
  ·exact ⟨fun h=>absurd h (by decide),fun h=>by contradiction⟩
  ·exact ⟨fun h=>absurd h (by decide),fun h=>by contradiction⟩
theorem acv:nb 1=⟨#[1]⟩:=by
 rw [wI (n:=1) (by decide) (.inr (by decide))]
 rfl
end Go.Ae
/- Points: their canonical form, and the contracts over it. -/
namespace Go.Ae
open Go
abbrev PV:=RV × RV
def PV.cells (p:PV):List Value:=[.bool p.1.1,.string p.1.2.1,.string p.1.2.2,.bool p.2.1,.string p.2.2.1,.string p.2.2.2]
def PV.v (p:PV):Value:=.agg ⟨[.bool p.1.1,.string p.1.2.1,.string p.1.2.2,.bool p.2.1,.string p.2.2.1,.string p.2.2.2]⟩
def mu (x y:Rat):Value:=PV.v (RV.of x,RV.of y)
def RV.sz (k:Nat) (i:RV):Prop:=i.2.1.size≤k∧i.2.2.size≤k
def PV.sz (k:Nat) (p:PV):Prop:=p.1.sz k∧p.2.sz k
theorem RV.b6 {k:Nat} {i:RV} (h:i.sz k) (hk:k≤8589934592):i.ok:=⟨Nat.le_trans h.1 hk,Nat.le_trans h.2 hk⟩
theorem RV.a8 {k l:Nat} {i:RV} (h:i.sz k) (hk:k≤l):i.sz l:=⟨Nat.le_trans h.1 hk,Nat.le_trans h.2 hk⟩
theorem PV.a8 {k l:Nat} {i:PV} (h:i.sz k) (hk:k≤l):i.sz l:=⟨RV.a8 h.1 hk,RV.a8 h.2 hk⟩
theorem RV.mR {q:Rat} {k:Nat} (h:QB q k):(RV.of q).sz k:=⟨by show (nb _).size≤_; rw [gD]; exact h.1,Lg h.2⟩
theorem RV.jX {i:RV} {k:Nat} (h:i.sz k) (hk:1≤k):QB i.q k:=RV.qb h.1 h.2 hk
def lH (a b:Rat):Rat:=if a < b then b else a
def lI (a b:Rat):Rat:=if b < a then b else a
def acw (a b:PV):Int:=if aY a.1.q b.1.q≠0 then aY a.1.q b.1.q else aY a.2.q b.2.q
abbrev qD:=PV × PV
def uU:Int→Prop:=fun n=>-9223372036854775808≤n∧n < 9223372036854775808
def pV:bG:={ ι:=Int × Int,args:=fun i=>[.int .i64 i.1,.int .i64 i.2],pre:=fun i=>uU i.1∧uU i.2,val:=fun i=>mu (i.1:Rat) (i.2:Rat) }
def IA (i:qD):Prop:=i.1.sz 8589934592∧i.2.sz 8589934592
def GN:bG:={ ι:=qD,args:=fun i=>[i.1.v,i.2.v],pre:=IA,val:=fun i=>mu (i.1.1.q+i.2.1.q) (i.1.2.q+i.2.2.q) }
def kF:bG:={ ι:=qD,args:=fun i=>[i.1.v,i.2.v],pre:=IA,val:=fun i=>mu (i.1.1.q - i.2.1.q) (i.1.2.q - i.2.2.q) }
def FH:bG:={ ι:=PV × RV,args:=fun i=>[i.1.v,i.2.v],pre:=fun i=>i.1.sz 8589934592∧i.2.sz 8589934592,val:=fun i=>mu (i.1.1.q*i.2.q) (i.1.2.q*i.2.q) }
def acx (i:qD):Prop:=i.1.sz 1073741824∧i.2.sz 1073741824
def YC (p q:PV):Rat:=p.1.q*q.2.q - p.2.q*q.1.q
def pj:bG:={ ι:=qD,args:=fun i=>[i.1.v,i.2.v],pre:=acx,val:=fun i=>bM (YC i.1 i.2) }
def PV.canon (p:PV):Prop:=p.1=RV.of p.1.q∧p.2=RV.of p.2.q
instance (p:PV):Decidable p.canon:=inferInstanceAs (Decidable (_∧_))
def kA:bG:={ ι:=PV,args:=fun i=>[i.v],pre:=fun i=>i.sz 8589934592,val:=fun i=>.int .i64 (if i.canon then 0 else 1) }
def oD:bG:={ ι:=qD,args:=fun i=>[i.1.v,i.2.v],pre:=IA,val:=fun i=>.int .i64 (acw i.1 i.2) }
def acy (i:qD):Prop:=i.1.sz 268435456∧i.2.sz 268435456
def wX:bG:={ ι:=qD × RV,args:=fun i=>[i.1.1.v,i.1.2.v,i.2.v],pre:=fun i=>acy i.1∧i.2.sz 268435456,val:=fun i=>mu (i.1.1.1.q+(i.1.2.1.q - i.1.1.1.q)*i.2.q) (i.1.1.2.q+(i.1.2.2.q - i.1.1.2.q)*i.2.q) }
def PV.yH (p:PV):Prop:=p.1.yH∨p.2.yH
instance (p:PV):Decidable p.yH:=inferInstanceAs (Decidable (_∨_))
theorem RU (p q:PV):eT p.cells q.cells=decide (p=q):=by
 obtain ⟨⟨a,b,c⟩,⟨d,e,f⟩⟩:=p
 obtain ⟨⟨a',b',c'⟩,⟨d',e',f'⟩⟩:=q
 simp only [PV.cells,eT,Bool.and_true,pC]
 by_cases h1:a=a' <;> by_cases J:b=b' <;> by_cases h3:c=c' <;> by_cases h4:d=d' <;> by_cases h5:e=e' <;> by_cases h6:f=f' <;> simp [h1,J,h3,h4,h5,h6]
/-- The rows of a list of rationals, or of points. -/
def RV.cells (i:RV):List Value:=[.bool i.1,.string i.2.1,.string i.2.2]
def bS (l:List PV):Nat→List Value:=fun r=>(l.getD r ((false,⟨#[]⟩,⟨#[]⟩),(false,⟨#[]⟩,⟨#[]⟩))).cells
theorem E4 {o:Bool} {n k:Nat} {g:Nat→List Value} {rows:List (List Value)} (h1:rows.length=n) (J:∀ r,r < n→rows.getD r []=g r) (h3:∀ r,r < n→mj (g r)=true):aA (.flat false n k g) (.aQ o k rows) :=
 ⟨(fun h=>by cases h),rfl,by show n≤rows.length; omega,fun r hr=>by
  show g r=rows.getD r []
  exact (J r hr).symm,fun r hr v hv=>dG (h3 r hr) v hv⟩
theorem Ky (l:List PV) (r:Nat):mj (bS l r)=true:=rfl
end Go.Ae
/- Points: lists. -/
namespace Go.Ae
open Go
theorem qU {l:List PV} {i:Nat} (h:i < l.length):∃ p,l[i]?=some p∧p∈l∧bS l i=p.cells:=by
 refine ⟨l[i],List.getElem?_eq_getElem h,List.getElem_mem h,?_⟩
 unfold bS
 rw [List.getD_eq_getElem?_getD,List.getElem?_eq_getElem h]
 rfl
theorem Ut {p q:Rat}:aY p q=1↔q < p:=by
 unfold aY
 split
 ·rename_i h
  exact ⟨fun J=>absurd J (by decide),fun J=>by grind⟩
 ·split
  ·exact ⟨fun _=>by assumption,fun _=>rfl⟩
  ·exact ⟨fun h=>absurd h (by decide),fun h=>by contradiction⟩
theorem Td {p q:Rat}:aY p q=-1↔p < q:=by
 unfold aY
 split
 ·exact ⟨fun _=>by assumption,fun _=>rfl⟩
 ·split
  ·exact ⟨fun h=>absurd h (by decide),fun h=>by contradiction⟩
  ·exact ⟨fun h=>absurd h (by decide),fun h=>by contradiction⟩
theorem QB.max {p q:Rat} {k:Nat} (hp:QB p k) (hq:QB q k):QB (lH p q) k:=by
 unfold lH; split <;> assumption
theorem QB.min {p q:Rat} {k:Nat} (hp:QB p k) (hq:QB q k):QB (lI p q) k:=by
 unfold lI; split <;> assumption
theorem QB.abs {p:Rat} {k:Nat} (hp:QB p k):QB (OF p) k:=by
 unfold OF; split
 ·exact hp.neg
 ·exact hp
/-! boxes -/
abbrev XV:=PV × PV
def XV.v (b:XV):Value:=.agg ⟨[.bool b.1.1.1,.string b.1.1.2.1,.string b.1.1.2.2,.bool b.1.2.1,.string b.1.2.2.1,.string b.1.2.2.2,.bool b.2.1.1,.string b.2.1.2.1,.string b.2.1.2.2,.bool b.2.2.1,.string b.2.2.2.1,.string b.2.2.2.2]⟩
def XV.cells (b:XV):List Value:=[.bool b.1.1.1,.string b.1.1.2.1,.string b.1.1.2.2,.bool b.1.2.1,.string b.1.2.2.1,.string b.1.2.2.2,.bool b.2.1.1,.string b.2.1.2.1,.string b.2.1.2.2,.bool b.2.2.1,.string b.2.2.2.1,.string b.2.2.2.2]
def NV (b:XV) (p:PV):Prop:=b.1.1.q≤p.1.q∧p.1.q≤b.2.1.q∧b.1.2.q≤p.2.q∧p.2.q≤b.2.2.q
instance (b:XV) (p:PV):Decidable (NV b p):=inferInstanceAs (Decidable (_∧_∧_∧_))
def Uu:bG:={ ι:=XV × PV,args:=fun i=>[i.1.v,i.2.v],pre:=fun i=>(i.1.1.sz 268435456∧i.1.2.sz 268435456)∧i.2.sz 268435456,val:=fun i=>.bool (decide (NV i.1 i.2)) }
theorem FI {p q:Rat}:aY p q≤0↔p≤q:=by
 have:=vO (p:=p) (q:=q)
 constructor
 ·intro h; have:¬ q < p:=fun e=>by have:=this.2 e; omega
  grind
 ·intro h; have:¬ aY p q > 0:=fun e=>by have:=this.1 e; grind
  omega
theorem rl {p q:Rat}:aY p q ≥ 0↔q≤p:=by
 have:=E3 (p:=p) (q:=q)
 constructor
 ·intro h; have:¬ p < q:=fun e=>by have:=this.2 e; omega
  grind
 ·intro h; have:¬ aY p q < 0:=fun e=>by have:=this.1 e; grind
  omega
end Go.Ae
/- Contracts of rational: quotients of rationals. -/
namespace Go.Ae
open Go
def pN:bG:={ ι:=nh,args:=fun i=>[i.1.v,i.2.v],pre:=nh.ok,val:=fun i=>.tuple ⟨[bM (i.1.q / i.2.q),.int .i64 (if i.2.q=0 then 10 else 0)]⟩ }
theorem RW (b:RV):b.q=0↔b.n=0:=by
 have hb:=natCast_pos b.jK
 rw [xS,Rat.div_def]
 constructor
 ·intro h
  rcases Rat.mul_eq_zero.1 h with h | h
  ·exact_mod_cast h
  ·exfalso
   have J:((b.d:Nat):Rat)*((b.d:Nat):Rat)⁻¹=1:=Rat.mul_inv_cancel _ (by grind)
   rw [h] at J
   grind
 ·intro h
  rw [h]
  simp
theorem aaX (a b:RV):lG (a.n*b.d) (a.d*b.n)=.tuple ⟨[bM (a.q / b.q),.int .i64 (if b.q=0 then 10 else 0)]⟩:=by
 have ha:=natCast_pos a.jK
 have hb:=natCast_pos b.jK
 have e1:Rat.divInt (a.n*b.d) (a.d*b.n)=a.q / b.q:=by
  rw [Rat.divInt_eq_div,xS a,xS b,Rat.intCast_mul,Rat.intCast_mul,Rat.intCast_natCast,Rat.intCast_natCast]
  by_cases h:(b.n:Rat)=0
  ·rw [h]; simp [Rat.div_def]
  ·grind
 have e2:((a.d:Int)*b.n=0)↔b.q=0:=by
  rw [RW]
  constructor
  ·intro h
   rcases Int.mul_eq_zero.1 h with h | h
   ·have:=a.jK; omega
   ·exact h
  ·intro h; rw [h]; simp
 unfold lG
 rw [e1]
 simp only [e2]
end Go.Ae
/- The laws of vectors: what the statements' functions answer. -/
namespace Go.Ae
open Go
theorem Px (i:RV):eT [.bool i.1,.string i.2.1,.string i.2.2] [.bool i.1,.string i.2.1,.string i.2.2]=true:=by
 rw [Dy i i]; exact decide_eq_true rfl
instance (n:Int):Decidable (uU n):=inferInstanceAs (Decidable (_∧_))
def Nn:bG:={ ι:=Unit,args:=fun _=>[],pre:=fun _=>True,val:=fun _=>.bool true }
def dv:RV:=(false,⟨#[]⟩,⟨#[]⟩)
theorem tc (k:Nat):dv.sz k:=⟨Nat.zero_le _,Nat.zero_le _⟩
/-! the chapter's example -/
theorem yn {n:Int} (h:n.natAbs < 256):QB (n:Rat) 1:=by
 have e1:(n:Rat).num=n:=Rat.num_intCast n
 have e2:(n:Rat).den=1:=Rat.den_intCast n
 refine ⟨?_,?_⟩
 ·rw [e1]; exact gJ (show n.natAbs < C ^ 1 from h)
 ·rw [e2]; exact gJ (show 1 < C ^ 1 by decide)
end Go.Ae
/- Points: bounds of lists. -/
namespace Go.Ae
open Go
/-- A list of points as a function gets it: nil, or a slice over a block. -/
abbrev PL:=Option (List PV × Nat)
def PL.val:PL→Value
 | none=>.slice none 0 0
 | some i=>.slice (some ⟨0,0,none⟩) i.1.length i.2
def PL.ae:PL→List ai
 | none=>[]
 | some i=>[.flat false i.1.length 6 (bS i.1)]
def PL.list:PL→List PV
 | none=>[]
 | some i=>i.1
def PL.ok (i:PL):Prop:=i.list.length≤9223372036854775807
def jq:XV:=((dv,dv),(dv,dv))
theorem VP:dv.q=0:=by
 show mkRat (bc false (ab ⟨#[]⟩)) _=0
 exact Rat.zero_mkRat _
end Go.Ae
/- The laws of vectors: boxes. -/
namespace Go.Ae
open Go
theorem zI (b:XV):eT [.bool b.1.1.1,.string b.1.1.2.1,.string b.1.1.2.2,.bool b.1.2.1,.string b.1.2.2.1,.string b.1.2.2.2,.bool b.2.1.1,.string b.2.1.2.1,.string b.2.1.2.2,.bool b.2.2.1,.string b.2.2.2.1,.string b.2.2.2.2] [.bool b.1.1.1,.string b.1.1.2.1,.string b.1.1.2.2,.bool b.1.2.1,.string b.1.2.2.1,.string b.1.2.2.2,.bool b.2.1.1,.string b.2.1.2.1,.string b.2.1.2.2,.bool b.2.2.1,.string b.2.2.2.1,.string b.2.2.2.2]=true:=by
 simp [eT]
end Go.Ae
/- The laws of vectors: bounds, and lists turned around. -/
namespace Go.Ae
open Go
/-- The bound of some points. -/
structure Bounds (l:List PV) (X:XV):Prop where
 inb:∀ p∈l,Uu.val (X,p)=.bool true
 sz:X.1.sz 268435456∧X.2.sz 268435456
 c1:kA.val X.1=.int .i64 0
 c2:kA.val X.2=.int .i64 0
 l1:∃ p∈l,p.1.q=X.1.1.q
 l2:∃ p∈l,p.1.q=X.2.1.q
 l3:∃ p∈l,p.2.q=X.1.2.q
 l4:∃ p∈l,p.2.q=X.2.2.q
theorem xM {p q:Rat}:aY p q=0↔p=q:=by
 have h1:=FI (p:=p) (q:=q)
 have J:=rl (p:=p) (q:=q)
 constructor
 ·intro h; have:=h1.1 (by omega); have:=J.1 (by omega); grind
 ·intro h; have:=h1.2 (by grind); have:=J.2 (by grind); omega
theorem aA.qV {o o':Bool} {n e:Nat} {g f:Nat→List Value} (h:o=true→o'=true) (hf:∀ r,r < n→f r=g r) (hs:∀ r,r < n→mj (g r)=true):aA (.flat o n e g) (.flat o' n e f) :=
 ⟨fun ho=>⟨h ho,rfl⟩,rfl,Nat.le_refl _,fun r hr=>(hf r hr).symm,fun r hr v hv=>dG (hs r hr) v hv⟩
end Go.Ae
/- Contracts of predicate, over rationals. -/
namespace Go.Ae
open Go
abbrev Q2:=Rat × Rat
def PV.p (a:PV):Q2:=(a.1.q,a.2.q)
def cB (p:Q2):PV:=(RV.of p.1,RV.of p.2)
theorem ig (p:Q2):(cB p).p=p:=by
 show ((RV.of p.1).q,(RV.of p.2).q)=p
 rw [RV.ik,RV.ik]
def rX (b a:Q2):Q2:=(b.1 - a.1,b.2 - a.2)
def Cr (u v:Q2):Rat:=u.1*v.1+u.2*v.2
def nv (u v:Q2):Rat:=u.1*v.2 - u.2*v.1
theorem MH (b a:PV):kF.val (b,a)=(cB (rX b.p a.p)).v:=rfl
theorem Te (u v:PV):pj.val (u,v)=(RV.of (nv u.p v.p)).v:=rfl
theorem Uv (r:RV):iD.val r=.int .i64 (aY r.q 0):=rfl
/-- A point whose numbers have at most k bytes. -/
def Q2.sz (k:Nat) (p:Q2):Prop:=QB p.1 k∧QB p.2 k
theorem PV.dp {a:PV} {k:Nat} (h:a.sz k) (hk:1≤k):Q2.sz k a.p:=⟨RV.jX h.1 hk,RV.jX h.2 hk⟩
theorem wm {p:Q2} {k l:Nat} (h:Q2.sz k p) (hl:k≤l):(cB p).sz l:=⟨RV.a8 (RV.mR h.1) hl,RV.a8 (RV.mR h.2) hl⟩
theorem ou {a b:Q2} {k l:Nat} (ha:Q2.sz k a) (hb:Q2.sz l b):Q2.sz (k+l+1) (rX a b):=⟨ha.1.sub hb.1,ha.2.sub hb.2⟩
theorem YD {a b:Q2} {k l:Nat} (ha:Q2.sz k a) (hb:Q2.sz l b):QB (Cr a b) (k+l+(k+l)+1):=(ha.1.mul hb.1).add (ha.2.mul hb.2)
theorem xT {a b:Q2} {k l:Nat} (ha:Q2.sz k a) (hb:Q2.sz l b):QB (nv a b) (k+l+(k+l)+1):=(ha.1.mul hb.2).sub (ha.2.mul hb.1)
theorem YE {q:Rat} {k:Nat} (h:QB q k) (hk:k≤8589934592):(RV.of q).ok:=RV.rJ (h.mono hk)
def aw (a b c:Q2):Rat:=nv (rX b a) (rX c a)
abbrev xl:=PV × PV × PV
def Cs (i:xl):Prop:=i.1.sz 1048576∧i.2.1.sz 1048576∧i.2.2.sz 1048576
def lZ:bG:={ ι:=xl,args:=fun i=>[i.1.v,i.2.1.v,i.2.2.v],pre:=Cs,val:=fun i=>.int .i64 (aY (aw i.1.p i.2.1.p i.2.2.p) 0) }
/-- A point lies on a segment. -/
def Ct (a b p:Q2):Prop:=aw a b p=0∧Cr (rX a p) (rX b p)≤0
instance (a b p:Q2):Decidable (Ct a b p):=inferInstanceAs (Decidable (_∧_))
def lh (v:Q2):Int:=if v.1=0∧v.2=0 then 0 else if 0 < v.2∨v.2=0∧0 < v.1 then 1 else 2
def rY (u v:Q2):Int:=if lh u < lh v then -1 else if lh v < lh u then 1 else -aY (nv u v) 0
abbrev TV:=PV × PV × PV
def TV.v (t:TV):Value:=.agg ⟨t.1.cells++(t.2.1.cells++t.2.2.cells)⟩
def wN (u p:Q2):Q2:=(Cr u p,nv u p)
def acz (u v w:Q2):Prop:=lh u≠0∧lh v≠0∧lh w≠0∧rY (wN u w) (wN u u)≠0∧(rY (wN u v) (wN u u)=0∨rY (wN u w) (wN u v) < 0)
instance (u v w:Q2):Decidable (acz u v w):=inferInstanceAs (Decidable (_∧_))
end Go.Ae
/- Predicates: what the program's forms come to. -/
namespace Go.Ae
open Go
def fL (a b:Q2):Int:=if aY a.1 b.1≠0 then aY a.1 b.1 else aY a.2 b.2
theorem MI {p q:Rat} (h:p < q):aY p q=-1:=Td.2 h
theorem MJ {p q:Rat} (h:q < p):aY p q=1:=Ut.2 h
theorem FJ {p q:Rat} (h:p=q):aY p q=0:=xM.2 h
theorem Py (q:Rat):q < 0∨q=0∨0 < q:=by
 by_cases h:q < 0
 ·exact .inl h
 ·by_cases J:0 < q
  ·exact .inr (.inr J)
  ·exact .inr (.inl (by grind))
theorem AA (q:Rat):(q < 0∧aY q 0=-1)∨(q=0∧aY q 0=0)∨(0 < q∧aY q 0=1):=by
 rcases Py q with h | h | h
 ·exact .inl ⟨h,MI h⟩
 ·exact .inr (.inl ⟨h,FJ h⟩)
 ·exact .inr (.inr ⟨h,MJ h⟩)
theorem E5 (p q:Rat):aY p q=aY (p - q) 0:=by
 rcases AA (p - q) with ⟨h1,J⟩ | ⟨h1,J⟩ | ⟨h1,J⟩ <;> rw [J]
 ·exact MI (by grind)
 ·exact FJ (by grind)
 ·exact MJ (by grind)
theorem Tf {a b:Q2}:fL a b=0↔a.1=b.1∧a.2=b.2:=by
 unfold fL
 by_cases h:aY a.1 b.1=0
 ·rw [if_neg (by simp [h]),xM]
  exact ⟨fun J=>⟨xM.1 h,J⟩,fun J=>J.2⟩
 ·rw [if_pos h]
  exact ⟨fun J=>absurd J h,fun J=>xM.2 J.1⟩
theorem sX (p q:Rat):aY p q=-1∨aY p q=0∨aY p q=1:=by
 unfold aY; split
 ·exact .inl rfl
 ·split
  ·exact .inr (.inr rfl)
  ·exact .inr (.inl rfl)
theorem Kz (a b:Q2):fL a b=-1∨fL a b=0∨fL a b=1:=by
 unfold fL; split <;> exact sX _ _
/-! the circle -/
end Go.Ae
/- Predicates: laws of orientations and circles; the chapter's example. -/
namespace Go.Ae
open Go
end Go.Ae
/- Predicates: angles. -/
namespace Go.Ae
open Go
def H1 (u:Q2):Prop:=0 < u.2∨u.2=0∧0 < u.1
def H2 (u:Q2):Prop:=u.2 < 0∨u.2=0∧u.1 < 0
end Go.Ae
/- Values of points and numbers behind variables, with their sizes. -/
namespace Go.Ae
open Go
theorem rL {x:Q2} {k:Nat} (h:Q2.sz k x):∃ u:PV,(cB x).v=u.v∧u.p=x∧u.sz k∧Q2.sz k u.p :=
 ⟨cB x,rfl,ig x,wm h (Nat.le_refl _),by rw [ig]; exact h⟩
theorem gN {q:Rat} {k:Nat} (h:QB q k):∃ r:RV,(RV.of q).v=r.v∧r.q=q∧r.sz k∧QB r.q k :=
 ⟨RV.of q,rfl,RV.ik q,RV.mR h,by rw [RV.ik]; exact h⟩
theorem RV.aaY {a b:RV} (h:a.v=b.v):a.1=b.1∧a.2.1=b.2.1∧a.2.2=b.2.2:=by
 have h:Value.agg ⟨[.bool a.1,.string a.2.1,.string a.2.2]⟩=Value.agg ⟨[.bool b.1,.string b.2.1,.string b.2.2]⟩:=h
 simp only [Value.agg.injEq,Array.mk.injEq,List.cons.injEq,Value.bool.injEq,Value.string.injEq] at h
 exact ⟨h.1,h.2.1,h.2.2.1⟩
theorem RV.nJ {a b:RV} (h:a.v=b.v):a=b:=by
 obtain ⟨h1,J,h3⟩:=RV.aaY h
 exact Prod.ext h1 (Prod.ext J h3)
theorem PV.nJ {a b:PV} (h:a.v=b.v):a=b:=by
 have h:Value.agg ⟨[.bool a.1.1,.string a.1.2.1,.string a.1.2.2,.bool a.2.1,.string a.2.2.1,.string a.2.2.2]⟩=Value.agg ⟨[.bool b.1.1,.string b.1.2.1,.string b.1.2.2,.bool b.2.1,.string b.2.2.1,.string b.2.2.2]⟩:=h
 simp only [Value.agg.injEq,Array.mk.injEq,List.cons.injEq,Value.bool.injEq,Value.string.injEq] at h
 obtain ⟨h1,J,h3,h4,h5,h6,_⟩:=h
 exact Prod.ext (Prod.ext h1 (Prod.ext J h3)) (Prod.ext h4 (Prod.ext h5 h6))
theorem eJ (n:Int):∃ m:Int,Value.int .i64 n=Value.int .i64 m∧m=n:=⟨n,rfl,rfl⟩
/-- Canonical ones, equal as such. -/
theorem wo {x:Q2} {k:Nat} (h:Q2.sz k x):∃ u:PV,u=cB x∧(cB x).v=u.v∧u.p=x∧u.sz k∧Q2.sz k u.p :=
 ⟨cB x,rfl,rfl,ig x,wm h (Nat.le_refl _),by rw [ig]; exact h⟩
theorem Gf {q:Rat} {k:Nat} (h:QB q k):∃ r:RV,r=RV.of q∧(RV.of q).v=r.v∧r.q=q∧r.sz k∧QB r.q k :=
 ⟨RV.of q,rfl,rfl,RV.ik q,RV.mR h,by rw [RV.ik]; exact h⟩
theorem uo (a b:Int) (ha:a.natAbs < 256) (hb:b.natAbs < 256):Q2.sz 1 ((a:Rat),(b:Rat)) :=
 ⟨yn ha,yn hb⟩
theorem Cu (p q:PV):eT [.bool p.1.1,.string p.1.2.1,.string p.1.2.2,.bool p.2.1,.string p.2.2.1,.string p.2.2.2] [.bool q.1.1,.string q.1.2.1,.string q.1.2.2,.bool q.2.1,.string q.2.2.1,.string q.2.2.2]=decide (p=q):=RU p q
theorem QB.of_int {n:Int} {k:Nat} (h:aR n.natAbs≤k) (hk:1≤k):QB (n:Rat) k:=⟨by rw [Rat.num_intCast]; exact h,by rw [Rat.den_intCast]; exact Nat.le_trans (gJ (show 1 < C ^ 1 by decide)) hk⟩
theorem QB.inv {q:Rat} {k:Nat} (h:QB q k) (hk:1≤k):QB q⁻¹ k:=by
 by_cases hq:q=0
 ·subst hq
  have:(0:Rat)⁻¹=0:=by simp
  rw [this]; exact h
 ·have e:q⁻¹=Rat.divInt q.den q.num:=Rat.inv_def q
  rw [e]
  have hn:q.num≠0:=fun e=>hq (Rat.num_eq_zero.1 e)
  rcases Int.lt_or_gt_of_ne hn with h1 | h1
  ·have e2:Rat.divInt q.den q.num=mkRat (-(q.den:Int)) q.num.natAbs:=by
    obtain ⟨m,hm⟩:∃ m:Nat,q.num=-(m:Int):=⟨q.num.natAbs,by omega⟩
    rw [hm]
    rw [Rat.divInt_neg']
    simp
   rw [e2]
   exact QB.mk (by omega) (by rw [Int.natAbs_neg,Int.natAbs_natCast]; exact h.2) h.1
  ·have e2:Rat.divInt q.den q.num=mkRat (q.den:Int) q.num.natAbs:=by
    obtain ⟨m,hm⟩:∃ m:Nat,q.num=(m:Int):=⟨q.num.natAbs,by omega⟩
    rw [hm]
    simp
   rw [e2]
   exact QB.mk (by omega) (by rw [Int.natAbs_natCast]; exact h.2) h.1
theorem QB.div {p q:Rat} {k l:Nat} (hp:QB p k) (hq:QB q l) (hl:1≤l):QB (p / q) (k+l):=by
 rw [Rat.div_def]; exact hp.mul (hq.inv hl)
def atR (a b:Q2) (t:Rat):Q2:=(a.1+(b.1 - a.1)*t,a.2+(b.2 - a.2)*t)
theorem yI {a b:Q2} {t:Rat} {k l m:Nat} (ha:Q2.sz k a) (hb:Q2.sz l b) (ht:QB t m):Q2.sz (k+(l+k+1+m)+1) (atR a b t) :=
 ⟨ha.1.add ((hb.1.sub ha.1).mul ht),ha.2.add ((hb.2.sub ha.2).mul ht)⟩
end Go.Ae
/- Predicates: triangles, segments, wedges. -/
namespace Go.Ae
open Go
/-! rows of the circle's determinant -/
abbrev R3:=RV × RV × RV
def R3.v (i:R3):Value:=.agg ⟨[.bool i.1.1,.string i.1.2.1,.string i.1.2.2,.bool i.2.1.1,.string i.2.1.2.1,.string i.2.1.2.2,.bool i.2.2.1,.string i.2.2.2.1,.string i.2.2.2.2]⟩
def R3.get (i:R3):Nat→RV | 0=>i.1 | 1=>i.2.1 | _=>i.2.2
def R3.sz (k:Nat) (i:R3):Prop:=i.1.sz k∧i.2.1.sz k∧i.2.2.sz k
def R3.rows (i:R3):Nat→List Value:=fun r=>(i.get r).cells
def R3.cells (i:R3):List Value:=[.bool i.1.1,.string i.1.2.1,.string i.1.2.2,.bool i.2.1.1,.string i.2.1.2.1,.string i.2.1.2.2,.bool i.2.2.1,.string i.2.2.2.1,.string i.2.2.2.2]
theorem R3.aH (i:R3):aA (.flat false 1 9 (fun _=>i.cells)) (.aQ true 9 [i.cells]) :=
 E4 rfl (fun r hr=>by
  have:r=0:=by omega
  subst this; rfl) (fun r hr=>rfl)
/-! triangles -/
def TV.w (t:TV):Value:=.agg ⟨[.bool t.1.1.1,.string t.1.1.2.1,.string t.1.1.2.2,.bool t.1.2.1,.string t.1.2.2.1,.string t.1.2.2.2,.bool t.2.1.1.1,.string t.2.1.1.2.1,.string t.2.1.1.2.2,.bool t.2.1.2.1,.string t.2.1.2.2.1,.string t.2.1.2.2.2,.bool t.2.2.1.1,.string t.2.2.1.2.1,.string t.2.2.1.2.2,.bool t.2.2.2.1,.string t.2.2.2.2.1,.string t.2.2.2.2.2]⟩
def sg (q:Rat):Int:=aY q 0
def inR (a b c p:Q2):Prop:=sg (aw a b c)≠0∧sg (aw a b p)=sg (aw a b c)∧sg (aw b c p)=sg (aw a b c)∧sg (aw c a p)=sg (aw a b c)
instance (a b c p:Q2):Decidable (inR a b c p):=inferInstanceAs (Decidable (_∧_))
def onR (a b c p:Q2):Prop:=Ct a b p∨Ct b c p∨Ct c a p
instance (a b c p:Q2):Decidable (onR a b c p):=inferInstanceAs (Decidable (_∨_))
/-! segments -/
/-! wedges -/
def YF (u v w:Q2):Prop:=(lh u≠0∧lh v≠0∧lh w≠0)∧if rY u v < 0 then rY u w < 0∧rY w v < 0 else rY u w < 0∨rY w v < 0
instance (u v w:Q2):Decidable (YF u v w):=inferInstanceAs (Decidable (_∧_))
def hs (u:Q2):Int:=if lh u=2 then -1 else 1
/-- All that the halves and the sides of three directions say. -/
structure Tri (u v w:Q2) (a b c x y z:Int):Prop where
 hu:lh u=a
 hv:lh v=b
 hw:lh w=c
 ra:a=1∨a=2
 rb:b=1∨b=2
 rc:c=1∨c=2
 uv:sg (nv u v)=x
 uw:sg (nv u w)=y
 wv:sg (nv w v)=z
end Go.Ae
/- Lists of points: sorting by insertion; equality; sizes. -/
namespace Go.Ae
open Go
/-! sizes of lists -/
instance (k:Nat) (p:PV):Decidable (p.sz k):=inferInstanceAs (Decidable ((_∧_)∧(_∧_)))
def tI (k:Nat) (l:List PV):Bool:=l.any fun p=>decide (¬ p.sz k)
theorem Dz {k:Nat} {l:List PV} {p:PV} (h:p∈l) (hg:¬ p.sz k):tI k l=true:=List.any_eq_true.2 ⟨p,h,decide_eq_true hg⟩
theorem QE {k:Nat} {l:List PV} (h:tI k l=false):∀ p∈l,p.sz k:=fun p hp=>by
 refine Classical.byContradiction fun hg=>?_
 rw [Dz hp hg] at h; cases h
def tx (k:Nat) (l:List PV) (i:Nat):Prop:=∀ p∈l.take i,p.sz k
theorem Jn (k:Nat) (l:List PV):tx k l 0:=fun p hp=>by simp at hp
theorem JD {k:Nat} {l:List PV} {i:Nat} {p:PV} (h:tx k l i) (hp:l[i]?=some p) (hg:p.sz k):tx k l (i+1):=fun q hq=>by
 rw [List.take_add_one,hp] at hq
 simp only [Option.toList_some,List.mem_append,List.mem_singleton] at hq
 rcases hq with hq | rfl
 ·exact h q hq
 ·exact hg
theorem J0 {k:Nat} {l:List PV} (h:tx k l l.length):tI k l=false:=by
 cases e:tI k l
 ·rfl
 ·obtain ⟨p,hp,hg⟩:=List.any_eq_true.1 e
  rw [tx,List.take_length] at h
  exact absurd (h p hp) (of_decide_eq_true hg)
theorem VQ (l:List PV):aA (.flat false l.length 6 (bS l)) (.aQ true 6 (l.map PV.cells)) :=
 E4 (by simp) (fun r hr=>by
  unfold bS
  rw [List.getD_eq_getElem?_getD,List.getD_eq_getElem?_getD,List.getElem?_map,List.getElem?_eq_getElem hr]
  rfl) (fun r hr=>rfl)
/-! equality of lists -/
/-- A list as the second one of two. -/
def PL.tZ (i:PL) (k:Nat):Value:=match i with | none=>.slice none 0 0 | some j=>.slice (some ⟨k,0,none⟩) j.1.length j.2
abbrev lO:=PL × PL
def kd:aG:={ ι:=lO,args:=fun i=>[i.1.val,i.2.tZ i.1.ae.length],ae:=fun i=>i.1.ae++i.2.ae,pre:=fun i=>i.1.list.length≤1099511627776∧i.2.list.length≤1099511627776,val:=fun i=>.bool (decide (i.1.list=i.2.list)),new:=fun _=>none }
def uq (l m:List PV) (i:Nat):Prop:=l.take i=m.take i
theorem RX (l m:List PV):uq l m 0:=rfl
theorem Tg {l m:List PV} {i:Nat} {p q:PV} (h:uq l m i) (hp:l[i]?=some p) (hq:m[i]?=some q) (e:p=q):uq l m (i+1):=by
 unfold uq at *
 rw [List.take_add_one,List.take_add_one,hp,hq,h,e]
theorem Uw {l m:List PV} (h:uq l m l.length) (hl:l.length=m.length):l=m:=by
 unfold uq at h
 rw [List.take_length] at h
 rw [h,hl,List.take_length]
theorem aaZ {l m:List PV} {i:Nat} {p q:PV} (hp:l[i]?=some p) (hq:m[i]?=some q) (e:p≠q):l≠m:=fun h=>by
 subst h; rw [hp] at hq; exact e (Option.some.inj hq)
/-! insertion -/
section
variable (f:PV→PV→Int)
/-- An element into a sorted list that stands the other way round. -/
def rZ (x:PV):List PV→List PV
 | []=>[x]
 | y::r=>if f x y < 0 then y::rZ x r else x::y::r
def wY (l:List PV):List PV:=l.foldl (fun a x=>rZ f x a) []
theorem Th {l:List PV} {x:PV}:wY f (l++[x])=rZ f x (wY f l):=by unfold wY; rw [List.foldl_append]; rfl
end
/-- A comparison that orders. -/
structure acZ (f:PV→PV→Int):Prop where
 ac9:∀ x y,f y x=-f x y
 trans:∀ x y z,f x y≤0→f y z≤0→f x z≤0
/-- The whole list when the first i have been sorted. -/
def NW (f:PV→PV→Int) (l:List PV) (i:Nat):List PV:=(wY f (l.take i)).reverse++l.drop i
/-- While x, the i-th element, moves down: r stands before it, B behind it. -/
structure zJ (f:PV→PV→Int) (l:List PV) (i j:Nat) (x:PV) (r B L:List PV):Prop where
 at_:l[i]?=some x
 acc:wY f (l.take i)=B++r
 ins:rZ f x (wY f (l.take i))=B++rZ f x r
 len:r.length=j
 all:L=r.reverse++x::(B.reverse++l.drop (i+1))
theorem zJ.step {f:PV→PV→Int} {l:List PV} {i j:Nat} {x y:PV} {r B L:List PV} (h:zJ f l i j x (y::r) B L) (hf:f x y < 0) :
  zJ f l i (j - 1) x r (B++[y]) (r.reverse++x::y::(B.reverse++l.drop (i+1))):=by
 refine ⟨h.at_,by rw [h.acc]; simp,?_,?_,by simp⟩
 ·have e:rZ f x (y::r)=y::rZ f x r:=by
   show (if f x y < 0 then _ else _)=_
   rw [if_pos hf]
  rw [h.ins,e]
  simp
 ·have:=h.len; simp at this; omega
theorem zJ.done {f:PV→PV→Int} {l:List PV} {i j:Nat} {x:PV} {r B L:List PV} (h:zJ f l i j x r B L) (hs:rZ f x r=x::r):L=NW f l (i+1):=by
 rw [h.all]
 unfold NW
 rw [List.take_add_one,h.at_]
 simp only [Option.toList_some]
 rw [Th,h.ins,hs]
 simp
end Go.Ae
/- Lists of points: the comparison over rationals. -/
namespace Go.Ae
open Go
/-! the statements' contracts -/
end Go.Ae
/- Predicates: laws of wedges. -/
namespace Go.Ae
open Go
end Go.Ae
/- Predicates: counting equal points. -/
namespace Go.Ae
open Go
end Go.Ae
/- Predicates: what the reference compares. -/
namespace Go.Ae
open Go
end Go.Ae
/- Contracts of line, over rationals. -/
namespace Go.Ae
open Go
abbrev Q3:=Rat × Rat × Rat
def R3.q (l:R3):Q3:=(l.1.q,l.2.1.q,l.2.2.q)
def Q3.sz (k:Nat) (l:Q3):Prop:=QB l.1 k∧QB l.2.1 k∧QB l.2.2 k
theorem R3.a8 {l:R3} {k m:Nat} (h:l.sz k) (hk:k≤m):l.sz m:=⟨RV.a8 h.1 hk,RV.a8 h.2.1 hk,RV.a8 h.2.2 hk⟩
theorem Q3.mono {l:Q3} {k m:Nat} (h:Q3.sz k l) (hk:k≤m):Q3.sz m l:=⟨h.1.mono hk,h.2.1.mono hk,h.2.2.mono hk⟩
theorem Q2.mono {l:Q2} {k m:Nat} (h:Q2.sz k l) (hk:k≤m):Q2.sz m l:=⟨h.1.mono hk,h.2.mono hk⟩
def yJ:R3:=(dv,dv,dv)
def qE (l:Q3):Q2:=(l.1,l.2.1)
def R3.n (l:R3):PV:=(l.1,l.2.1)
/-- The value of a point, whose sign is its side. -/
def bk (l:Q3) (p:Q2):Rat:=Cr (qE l) p - l.2.2
def mA (l:Q3):Prop:=¬ (l.1=0∧l.2.1=0)
instance (l:Q3):Decidable (mA l):=inferInstanceAs (Decidable (¬ (_∧_)))
def eV (p q:Q2):Q3:=(p.2 - q.2,q.1 - p.1,(p.2 - q.2)*p.1+(q.1 - p.1)*p.2)
def pW (l m:Q3):Rat:=nv (qE l) (qE m)
def Hs (l m:Q3):Q2:=((l.2.2*m.2.1 - l.2.1*m.2.2) / pW l m,(l.1*m.2.2 - l.2.2*m.1) / pW l m)
def B0:PV:=(dv,dv)
def LE.v (x:R3 × Int):Value:=.tuple ⟨[x.1.v,.int .i64 x.2]⟩
def PE.v (x:PV × Int):Value:=.tuple ⟨[x.1.v,.int .i64 x.2]⟩
def ZE.v (x:Int × Int):Value:=.tuple ⟨[.int .i64 x.1,.int .i64 x.2]⟩
/-! the reference's -/
/-! what is great -/
def RV.oI (i:RV):Prop:=20 < i.2.1.size∨20 < i.2.2.size
instance (i:RV):Decidable i.oI:=inferInstanceAs (Decidable (_∨_))
def R3.oI (l:R3):Prop:=l.1.oI∨l.2.1.oI∨l.2.2.oI
instance (l:R3):Decidable l.oI:=inferInstanceAs (Decidable (_∨_∨_))
def PV.oI (p:PV):Prop:=p.1.oI∨p.2.oI
instance (l:PV):Decidable l.oI:=inferInstanceAs (Decidable (_∨_))
end Go.Ae
/- Lines: sizes, and what the laws need. -/
namespace Go.Ae
open Go
theorem Ux (k:Nat):yJ.sz k:=⟨tc _,tc _,tc _⟩
theorem Uy (k:Nat):B0.sz k:=⟨tc _,tc _⟩
theorem xU {k:Nat}:QB dv.q (k+1):=RV.jX (tc _) (by omega)
theorem Uz (k:Nat):Q3.sz (k+1) yJ.q:=⟨xU,xU,xU⟩
theorem UA (k:Nat):Q2.sz (k+1) B0.p:=⟨xU,xU⟩
theorem No {p q:Q2} {k l:Nat} (hp:Q2.sz k p) (hq:Q2.sz l q):Q3.sz (k+l+1+k+(k+l+1+k)+1) (eV p q) :=
 ⟨(hp.2.sub hq.2).mono (by omega),(hq.1.sub hp.1).mono (by omega),(((hp.2.sub hq.2).mul hp.1).add (((hq.1.sub hp.1).mono (show l+k+1≤k+l+1 by omega)).mul hp.2)).mono (by omega)⟩
theorem Np {l:Q3} {p:Q2} {k m:Nat} (hl:Q3.sz k l) (hp:Q2.sz m p):QB (bk l p) (k+m+(k+m)+1+k+1):=(YD (a:=qE l) ⟨hl.1,hl.2.1⟩ hp).sub hl.2.2
theorem Nq {l:Q3} {k:Nat} (hl:Q3.sz k l):Q2.sz k (qE l):=⟨hl.1,hl.2.1⟩
theorem Nr {l m:Q3} {k j:Nat} (hl:Q3.sz k l) (hm:Q3.sz j m):QB (pW l m) (k+j+(k+j)+1):=xT (Nq hl) (Nq hm)
theorem YG {l m:Q3} {k j:Nat} (hl:Q3.sz k l) (hm:Q3.sz j m):Q2.sz (k+j+(k+j)+1+(k+j+(k+j)+1)) (Hs l m) :=
 ⟨((hl.2.2.mul hm.2.1).sub (hl.2.1.mul hm.2.2)).div (Nr hl hm) (by omega),((hl.1.mul hm.2.2).sub (hl.2.2.mul hm.1)).div (Nr hl hm) (by omega)⟩
/-! answers behind variables -/
theorem z3 {k:Nat} (h:1≤k):yJ.sz k∧Q3.sz k yJ.q:=⟨Ux _,Q3.mono (Uz 0) h⟩
theorem z2 {k:Nat} (h:1≤k):B0.sz k∧Q2.sz k B0.p:=⟨Uy _,Q2.mono (UA 0) h⟩
theorem R3.nJ {a b:R3} (h:a.v=b.v):a=b:=by
 have h:Value.agg ⟨[.bool a.1.1,.string a.1.2.1,.string a.1.2.2,.bool a.2.1.1,.string a.2.1.2.1,.string a.2.1.2.2,.bool a.2.2.1,.string a.2.2.2.1,.string a.2.2.2.2]⟩=Value.agg ⟨[.bool b.1.1,.string b.1.2.1,.string b.1.2.2,.bool b.2.1.1,.string b.2.1.2.1,.string b.2.1.2.2,.bool b.2.2.1,.string b.2.2.2.1,.string b.2.2.2.2]⟩:=h
 simp only [Value.agg.injEq,Array.mk.injEq,List.cons.injEq,Value.bool.injEq,Value.string.injEq] at h
 obtain ⟨h1,J,h3,h4,h5,h6,h7,h8,h9,_⟩:=h
 exact Prod.ext (Prod.ext h1 (Prod.ext J h3)) (Prod.ext (Prod.ext h4 (Prod.ext h5 h6)) (Prod.ext h7 (Prod.ext h8 h9)))
theorem jz:QB (2:Rat) 1:=yn (n:=2) (by decide)
end Go.Ae
/- Convex polygons: lists of points in cyclic order. -/
namespace Go.Ae
open Go
theorem fH (a b c:Q2):aw a b c=(b.1 - a.1)*(c.2 - a.2) - (b.2 - a.2)*(c.1 - a.1):=rfl
theorem v5 (a b c:Q2):aw a b c=aw b c a:=by rw [fH,fH]; grind
theorem xV (a b c:Q2):aw a c b=-aw a b c:=by rw [fH,fH]; grind
theorem Bi (a b:Q2):aw a a b=0:=by rw [fH]; grind
theorem rm (a b:Q2):aw a b a=0:=by rw [fH]; grind
theorem pk (a b:Q2):aw a b b=0:=by rw [fH]; grind
theorem LU (a b c d:Q2) (t:Rat):aw (atR a b t) c d=(1 - t)*aw a c d+t*aw b c d:=by
 simp only [fH,atR]; grind
theorem UB (a b c d:Q2) (t:Rat):aw c (atR a b t) d=(1 - t)*aw c a d+t*aw c b d:=by
 simp only [fH,atR]; grind
theorem LW (a b c d:Q2) (t:Rat):aw c d (atR a b t)=(1 - t)*aw c d a+t*aw c d b:=by
 simp only [fH,atR]; grind
theorem sY {x y t:Rat} (h0:0≤t) (h1:t≤1) (hx:0≤x) (hy:0≤y):0≤(1 - t)*x+t*y:=by
 have a:=Rat.mul_nonneg (show 0≤1 - t by grind) hx
 have b:=Rat.mul_nonneg h0 hy
 grind
/-- Any two of the list, seen from a, turn left. -/
def oE (a:Q2) (l:List Q2):Prop:=l.Pairwise (fun b c=>0≤aw a b c)
/-- Any three turn left, or lie on a line. -/
def bI:List Q2→Prop
 | []=>True
 | a::l=>oE a l∧bI l
theorem bI.sublist {l m:List Q2} (h:bI m) (hs:l.Sublist m):bI l:=by
 induction hs with
 | slnil=>exact trivial
 | cons a hs ih=>exact ih h.2
 | cons_cons a hs ih=>exact ⟨h.1.sublist hs,ih h.2⟩
theorem bI.filter {l:List Q2} (h:bI l) (f:Q2→Bool):bI (l.filter f):=h.sublist List.filter_sublist
theorem oE.ins {a p q:Q2} {t:Rat} {A B:List Q2} (h0:0≤t) (h1:t≤1) (h:oE a (A++p::q::B)):oE a (A++p::atR p q t::q::B):=by
 unfold oE at *
 rw [List.pairwise_append] at h ⊢
 obtain ⟨hA,hB,nV⟩:=h
 rw [List.pairwise_cons,List.pairwise_cons] at hB
 obtain ⟨hp,hq,hB⟩:=hB
 refine ⟨hA,?_,?_⟩
 ·rw [List.pairwise_cons,List.pairwise_cons,List.pairwise_cons]
  refine ⟨?_,?_,hq,hB⟩
  ·intro z hz
   rcases List.mem_cons.1 hz with rfl | hz
   ·rw [LW,pk]
    exact sY h0 h1 (by grind) (hp _ (List.mem_cons_self ..))
   ·exact hp z hz
  ·intro z hz
   rw [UB]
   rcases List.mem_cons.1 hz with rfl | hz
   ·exact sY h0 h1 (hp _ (List.mem_cons_self ..)) (by rw [pk]; grind)
   ·exact sY h0 h1 (hp _ (List.mem_cons_of_mem _ hz)) (hq _ hz)
 ·intro y hy z hz
  rcases List.mem_cons.1 hz with rfl | hz
  ·exact nV y hy _ (List.mem_cons_self ..)
  ·rcases List.mem_cons.1 hz with rfl | hz
   ·rw [LW]
    exact sY h0 h1 (nV y hy _ (List.mem_cons_self ..)) (nV y hy _ (List.mem_cons_of_mem _ (List.mem_cons_self ..)))
   ·exact nV y hy _ (List.mem_cons_of_mem _ hz)
/-- A point put between two neighbours. -/
theorem bI.ins {p q:Q2} {t:Rat} {A B:List Q2} (h0:0≤t) (h1:t≤1) (h:bI (A++p::q::B)):bI (A++p::atR p q t::q::B):=by
 induction A with
 | cons a A ih=>exact ⟨h.1.ins h0 h1,ih h.2⟩
 | nil =>
  obtain ⟨hp,hq,hB⟩:=h
  refine ⟨oE.ins (A:=[]) (p:=p) h0 h1 (by
   show List.Pairwise _ (p::q::B)
   rw [List.pairwise_cons]
   exact ⟨fun z hz=>by rw [Bi]; grind,hp⟩) |>.sublist (List.sublist_cons_self ..),?_,hq,hB⟩
  unfold oE at *
  rw [List.pairwise_cons] at hp ⊢
  obtain ⟨hp,hpB⟩:=hp
  refine ⟨fun z hz=>?_,?_⟩
  ·rw [LU,Bi]
   exact sY h0 h1 (hp z hz) (by grind)
  ·exact (hpB.and hq).imp (fun ⟨x,y⟩=>by rw [LU]; exact sY h0 h1 x y)
theorem bI.snoc {A:List Q2} {x:Q2} (h:bI A) (hx:A.Pairwise (fun y z=>0≤aw y z x)):bI (A++[x]):=by
 induction A with
 | nil=>exact ⟨.nil,trivial⟩
 | cons a A ih =>
  rw [List.pairwise_cons] at hx
  refine ⟨?_,ih h.2 hx.2⟩
  show List.Pairwise _ (A++[x])
  rw [List.pairwise_append]
  exact ⟨h.1,by simp,fun y hy z hz=>by simp at hz; subst hz; exact hx.1 y hy⟩
/-- The list turned by one. -/
theorem bI.acA {a:Q2} {l:List Q2} (h:bI (a::l)):bI (l++[a]) :=
 h.2.snoc (h.1.imp (fun {y z} h=>by rw [v5,v5]; rw [← v5] at *; first | exact h | (rw [v5]; exact h)))
theorem bI.uV {A B:List Q2} (h:bI (A++B)):bI (B++A):=by
 induction A generalizing B with
 | nil=>rw [List.append_nil]; exact h
 | cons a A ih =>
  have:bI ((A++B)++[a]):=h.acA
  rw [List.append_assoc] at this
  have:=ih this
  rwa [List.append_assoc] at this
/-- A point put behind the last one, on the way to the first one. -/
theorem bI.last {p h0:Q2} {t:Rat} {A:List Q2} (h1:0≤t) (J:t≤1) (h:bI (A++[p])) (hh:(A++[p]).head?=some h0):bI (A++[p,atR p h0 t]):=by
 have:=h.uV
 cases A with
 | nil =>
  simp at hh; subst hh
  exact ⟨by unfold oE; simp,by unfold oE; simp,trivial⟩
 | cons a A =>
  simp at hh; subst hh
  have:=bI.ins (A:=[]) h1 J this
  have:=bI.uV (A:=[p,atR p a t]) (B:=a::A) this
  exact this
end Go.Ae
/- Convex polygons: the part on the left of a line. -/
namespace Go.Ae
open Go
/-! neighbours -/
def cG {α:Type} (l:List α):List (α × α):=l.zip l.tail
def aX {α:Type} (l:List α):List (α × α):=cG (l++l.head?.toList)
theorem lU {α:Type} (p q:α) (l:List α):cG (p::q::l)=(p,q)::cG (q::l):=rfl
theorem vr {α:Type} (A B:List α) (x:α):cG (A++x::B)=cG (A++[x])++cG (x::B):=by
 induction A with
 | nil=>rfl
 | cons a A ih =>
  cases A with
  | nil=>rfl
  | cons b A =>
   show (a,b)::cG (b::A++x::B)=(a,b)::cG (b::A++[x])++_
   rw [ih]; rfl
theorem RY {α:Type} {l:List α} {e:α × α} (h:e∈cG l):e.1∈l∧e.2∈l:=by
 have:=List.of_mem_zip h
 exact ⟨this.1,List.mem_of_mem_tail this.2⟩
theorem vt {α:Type} (h:α) (l:List α):aX (h::l)=cG (h::l++[h]):=rfl
theorem o5 {α:Type} {l:List α} {e:α × α} (h:e∈aX l):e.1∈l∧e.2∈l:=by
 cases l with
 | nil=>cases h
 | cons a l =>
  have:=RY h
  simp at this ⊢
  exact ⟨by rcases this.1 with h | h | h <;> simp [h],by rcases this.2 with h | h | h <;> simp [h]⟩
theorem AO {α:Type} {A B:List α} {e:α × α} (h:e∈aX (A++B)):e∈aX (B++A):=by
 cases A with
 | nil=>rw [List.append_nil]; exact h
 | cons a A =>
  cases B with
  | nil=>rw [List.append_nil] at h; exact h
  | cons b B =>
   have h1:aX (a::A++b::B)=cG (a::A++[b])++cG (b::B++[a]):=by
    show cG ((a::A++b::B)++[a])=_
    rw [List.append_assoc]
    exact vr (a::A) (B++[a]) b
   have J:aX (b::B++a::A)=cG (b::B++[a])++cG (a::A++[b]):=by
    show cG ((b::B++a::A)++[b])=_
    rw [List.append_assoc]
    exact vr (b::B) (A++[b]) a
   rw [h1] at h
   rw [J]
   rcases List.mem_append.1 h with h | h
   ·exact List.mem_append_right _ h
   ·exact List.mem_append_left _ h
theorem RZ {α:Type} {l:List α} {i:Nat} {p q:α} (hp:l[i]?=some p) (hq:l[i+1]?=some q):(cG l)[i]?=some (p,q):=by
 unfold cG
 rw [List.getElem?_zip_eq_some]
 exact ⟨hp,by rw [List.getElem?_tail]; exact hq⟩
theorem kS {α:Type} (l:List α):(aX l).length=l.length:=by
 cases l with
 | nil=>rfl
 | cons a l=>rw [vt]; unfold cG; simp
theorem qW {α:Type} {l:List α} {i:Nat} {p q:α} (hp:l[i]?=some p) (hq:l[(i+1) % l.length]?=some q):(aX l)[i]?=some (p,q):=by
 cases l with
 | nil=>simp at hp
 | cons a l =>
  have hi:i < (a::l).length:=(List.getElem?_eq_some_iff.1 hp).1
  rw [vt]
  refine RZ (by rw [List.getElem?_append_left hi]; exact hp) ?_
  rcases Nat.lt_or_eq_of_le (show i+1≤(a::l).length from hi) with h | h
  ·rw [Nat.mod_eq_of_lt h] at hq
   rw [List.getElem?_append_left h]; exact hq
  ·rw [h,Nat.mod_self] at hq
   rw [List.getElem?_append_right (by omega),h,Nat.sub_self]
   exact hq
/-! cutting -/
theorem kB (l:Q3) (p:Q2):bk l p=l.1*p.1+l.2.1*p.2 - l.2.2:=rfl
theorem A2 (m:Q3) (a b:Q2) (t:Rat):bk m (atR a b t)=(1 - t)*bk m a+t*bk m b:=by
 simp only [kB,atR]; grind
def ji (m:Q3) (p q:Q2):Rat:=bk m p / (bk m p - bk m q)
def gK (m:Q3) (p q:Q2):List Q2:=if aY (bk m p) 0*aY (bk m q) 0 < 0 then [atR p q (ji m p q)] else []
def mS (m:Q3) (p:Q2):List Q2:=if aY (bk m p) 0 ≥ 0 then [p] else []
def fo (m:Q3) (l:List Q2):List Q2:=(aX l).flatMap fun e=>mS m e.1++gK m e.1 e.2
def OG (m:Q3) (l:List Q2):List Q2:=(aX l).flatMap fun e=>e.1::gK m e.1 e.2
theorem AP {m:Q3} {p q:Q2}:aY (bk m p) 0*aY (bk m q) 0 < 0↔(0 < bk m p∧bk m q < 0)∨(bk m p < 0∧0 < bk m q):=by
 rcases AA (bk m p) with ⟨h1,J⟩ | ⟨h1,J⟩ | ⟨h1,J⟩ <;> rcases AA (bk m q) with ⟨h3,h4⟩ | ⟨h3,h4⟩ | ⟨h3,h4⟩ <;> rw [J,h4] <;> constructor <;> intro h <;> first | grind | omega
theorem UC {x y:Rat} (h:(0 < x∧y < 0)∨(x < 0∧0 < y)):0≤x / (x - y)∧x / (x - y)≤1∧(x / (x - y))*(x - y)=x:=by
 have aK:x - y≠0:=by grind
 have e:(x / (x - y))*(x - y)=x:=by rw [Rat.div_def]; grind
 refine ⟨?_,?_,e⟩
 ·rcases h with ⟨h1,J⟩ | ⟨h1,J⟩
  ·by_cases h3:x / (x - y) < 0
   ·have:=Rat.mul_pos (show 0 < -(x / (x - y)) by grind) (show 0 < x - y by grind); grind
   ·grind
  ·by_cases h3:x / (x - y) < 0
   ·have:=Rat.mul_pos (show 0 < -(x / (x - y)) by grind) (show 0 < y - x by grind); grind
   ·grind
 ·rcases h with ⟨h1,J⟩ | ⟨h1,J⟩
  ·by_cases h3:1 < x / (x - y)
   ·have:=Rat.mul_pos (show 0 < x / (x - y) - 1 by grind) (show 0 < x - y by grind); grind
   ·grind
  ·by_cases h3:1 < x / (x - y)
   ·have:=Rat.mul_pos (show 0 < x / (x - y) - 1 by grind) (show 0 < y - x by grind); grind
   ·grind
theorem xA {m:Q3} {p q x:Q2} (h:x∈gK m p q):((0 < bk m p∧bk m q < 0)∨(bk m p < 0∧0 < bk m q))∧x=atR p q (ji m p q)∧0≤ji m p q∧ji m p q≤1∧bk m x=0:=by
 unfold gK at h
 split at h
 ·rename_i h1
  have h1:=AP.1 h1
  simp at h
  obtain ⟨J,h3,h4⟩:=UC h1
  refine ⟨h1,h,J,h3,?_⟩
  rw [h,A2]
  unfold ji
  grind
 ·cases h
theorem Et {m:Q3} {p q:Q2} (h:(0 < bk m p∧bk m q < 0)∨(bk m p < 0∧0 < bk m q)):gK m p q=[atR p q (ji m p q)]:=by
 unfold gK; rw [if_pos (AP.2 h)]
theorem JE (m:Q3) (p q:Q2):gK m p q=[]∨(gK m p q=[atR p q (ji m p q)]∧0≤ji m p q∧ji m p q≤1):=by
 by_cases h:aY (bk m p) 0*aY (bk m q) 0 < 0
 ·have h1:=Et (AP.1 h)
  have:=xA (x:=atR p q (ji m p q)) (by rw [h1]; simp)
  exact .inr ⟨h1,this.2.2.1,this.2.2.2.1⟩
 ·left; unfold gK; rw [if_neg h]
theorem R0 (m:Q3) (l:List Q2):fo m l=(OG m l).filter fun p=>decide (0≤bk m p):=by
 unfold fo OG
 rw [List.filter_flatMap]
 congr 1
 funext e
 rw [List.filter_cons]
 have h1:(gK m e.1 e.2).filter (fun p=>decide (0≤bk m p))=gK m e.1 e.2:=by
  rw [List.filter_eq_self]
  intro x hx
  have:=(xA hx).2.2.2.2
  rw [this]; decide
 rw [h1]
 unfold mS
 by_cases h:0≤bk m e.1
 ·rw [if_pos (rl.2 h),if_pos (by simpa using h)]; rfl
 ·rw [if_neg (fun J=>h (rl.1 J)),if_neg (by simpa using h)]; rfl
theorem UD (m:Q3) {h:Q2}:∀ (B:List Q2) (p:Q2) (A:List Q2),bI (A++p::B)→(A++p::B).head?=some h→bI (A++(cG (p::B++[h])).flatMap fun e=>e.1::gK m e.1 e.2):=by
 intro B
 induction B with
 | nil =>
  intro p A ht hh
  show bI (A++((p::gK m p h)++[]))
  rw [List.append_nil]
  rcases JE m p h with e | ⟨e,h1,J⟩
  ·rw [e]; exact ht
  ·rw [e]; exact ht.last h1 J hh
 | cons q B ih =>
  intro p A ht hh
  show bI (A++((p::gK m p q)++(cG (q::B++[h])).flatMap fun e=>e.1::gK m e.1 e.2))
  rw [← List.append_assoc]
  rcases JE m p q with e | ⟨e,h1,J⟩
  ·rw [e]
   exact ih q (A++[p]) (by rw [List.append_assoc]; exact ht) (by rw [List.append_assoc]; exact hh)
  ·rw [e]
   refine ih q (A++[p,atR p q (ji m p q)]) ?_ ?_
   ·rw [List.append_assoc]; exact ht.ins h1 J
   ·cases A with
    | nil=>exact hh
    | cons a A=>exact hh
theorem UE {m:Q3} {l:List Q2} (h:bI l):bI (fo m l):=by
 rw [R0]
 refine bI.filter ?_ _
 cases l with
 | nil=>exact trivial
 | cons a l=>exact UD m l a [] h rfl
end Go.Ae
/- Convex polygons: the points within. -/
namespace Go.Ae
open Go
/-- The convex hull: every half-plane that contains the vertices contains the point. -/
def gW (P:List Q2) (p:Q2):Prop:=∀ f:Q3,(∀ v∈P,0≤bk f v)→0≤bk f p
theorem gW.ov {P:List Q2} {v:Q2} (h:v∈P):gW P v:=fun f hf=>hf v h
theorem gW.trans {P Q:List Q2} {p:Q2} (h:gW P p) (hq:∀ v∈P,gW Q v):gW Q p:=fun f hf=>h f (fun v hv=>hq v hv f hf)
theorem gW.mono {P Q:List Q2} {p:Q2} (h:gW P p) (hq:∀ v∈P,v∈Q):gW Q p:=h.trans fun v hv=>.ov (hq v hv)
theorem gW.nil (p:Q2):¬ gW [] p:=fun h=>by
 have:=h (0,0,1) (fun v hv=>nomatch hv)
 rw [kB] at this
 grind
theorem gW.at {P:List Q2} {a b:Q2} {t:Rat} (ha:gW P a) (hb:gW P b) (h0:0≤t) (h1:t≤1):gW P (atR a b t):=fun f hf=>by
 rw [A2]; exact sY h0 h1 (ha f hf) (hb f hf)
theorem VR {m:Q3} {P:List Q2} {x:Q2} (h:x∈fo m P):(x∈P∧0≤bk m x)∨∃ e∈aX P,x∈gK m e.1 e.2:=by
 unfold fo at h
 obtain ⟨e,he,hx⟩:=List.mem_flatMap.1 h
 rcases List.mem_append.1 hx with hx | hx
 ·left
  unfold mS at hx
  split at hx
  ·rename_i hc
   simp at hx
   rw [hx]
   exact ⟨(o5 he).1,rl.1 hc⟩
  ·cases hx
 ·exact .inr ⟨e,he,hx⟩
theorem bI.mid {v w x:Q2} {A B:List Q2} (h:bI (v::A++w::B)) (hx:x∈v::A++[w]):aw v w x≤0:=by
 have hl:List.Pairwise (fun b c=>0≤aw v b c) (A++w::B):=h.1
 rw [List.pairwise_append] at hl
 simp only [List.cons_append,List.mem_cons,List.mem_append,List.not_mem_nil,or_false] at hx
 rcases hx with rfl | hx | rfl
 ·rw [rm]; grind
 ·have:=hl.2.2 x hx w (List.mem_cons_self ..)
  rw [xV]; grind
 ·rw [pk]; grind
theorem bI.back {v w x:Q2} {A B:List Q2} (h:bI (v::A++w::B)) (hx:x∈w::B++[v]):0≤aw v w x:=by
 have hl:List.Pairwise (fun b c=>0≤aw v b c) (A++w::B):=h.1
 rw [List.pairwise_append,List.pairwise_cons] at hl
 simp only [List.cons_append,List.mem_cons,List.mem_append,List.not_mem_nil,or_false] at hx
 rcases hx with rfl | hx | rfl
 ·rw [pk]; grind
 ·exact hl.2.1.1 x hx
 ·rw [rm]; grind
end Go.Ae
/- Convex polygons: extreme points; a ring is given by its points. -/
namespace Go.Ae
open Go
def oS (a b:Q2):Q3:=(-(b.2 - a.2),b.1 - a.1,(b.1 - a.1)*a.2 - (b.2 - a.2)*a.1)
theorem oi (a b z:Q2):bk (oS a b) z=aw a b z:=by simp only [kB,fH,oS]; grind
def Ht (f g:Q3):Q3:=(f.1+g.1,f.2.1+g.2.1,f.2.2+g.2.2)
theorem LX (f g:Q3) (z:Q2):bk (Ht f g) z=bk f z+bk g z:=by simp only [kB,Ht]; grind
theorem FK {a b:Q2} (h:a≠b):mA (oS a b):=fun ⟨h1,J⟩=>h (Prod.ext (by unfold oS at J; grind) (by unfold oS at h1; grind))
theorem JF {α:Type} {l:List α} {e:α × α} (h:e∈cG l):∃ A B,l=A++e.1::e.2::B:=by
 induction l with
 | nil=>cases h
 | cons a l ih =>
  cases l with
  | nil=>cases h
  | cons b l =>
   rw [lU] at h
   rcases List.mem_cons.1 h with rfl | h
   ·exact ⟨[],l,rfl⟩
   ·obtain ⟨A,B,nV⟩:=ih h
    exact ⟨a::A,B,by rw [nV]; rfl⟩
theorem UF {α:Type} {P:List α} {a b:α} (h:(a,b)∈aX P):(P=[a]∧b=a)∨∃ X Y M,P=X++Y∧Y++X=a::b::M:=by
 cases P with
 | nil=>cases h
 | cons c l =>
  obtain ⟨A,B,nV⟩:=JF h
  have nV:c::l++[c]=A++a::b::B:=nV
  rcases List.eq_nil_or_concat B with rfl | ⟨B,d,rfl⟩
  ·have h1:c::l++[c]=(A++[a])++[b]:=by rw [nV]; simp
   have J:=List.append_inj' h1 rfl
   simp at J
   obtain ⟨J,h3⟩:=J
   cases A with
   | nil =>
    simp at J
    left; rw [J.1,J.2]; exact ⟨rfl,h3.symm.trans J.1⟩
   | cons x A =>
    right
    refine ⟨x::A,[a],A,by rw [J],?_⟩
    have:c=x:=by injection J
    show a::x::A=_
    rw [← this,h3]
  ·have h1:c::l++[c]=(A++a::b::B)++[d]:=by rw [nV]; simp
   have J:=(List.append_inj' h1 rfl).1
   right
   exact ⟨A,a::b::B,B++A,J,rfl⟩
theorem o6 {P:List Q2} {a b z:Q2} (hT:bI P) (h:(a,b)∈aX P) (hz:z∈P):0≤aw a b z:=by
 rcases UF h with ⟨rfl,rfl⟩ | ⟨X,Y,M,rfl,J⟩
 ·rw [Bi]; grind
 ·have sH:=hT.uV
  rw [J] at sH
  have nR:z∈a::b::M:=by
   rw [← J]; rcases List.mem_append.1 hz with h | h
   ·exact List.mem_append_right _ h
   ·exact List.mem_append_left _ h
  have:=sH.1
  unfold oE at this
  rw [List.pairwise_cons] at this
  rcases List.mem_cons.1 nR with rfl | nR
  ·rw [rm]; grind
  ·rcases List.mem_cons.1 nR with rfl | nR
   ·rw [pk]; grind
   ·exact this.1 z nR
theorem Eu {P:List Q2} {a b z:Q2} (hT:bI P) (h:(a,b)∈aX P) (hz:gW P z):0≤aw a b z:=by
 rw [← oi]
 exact hz _ fun v hv=>by rw [oi]; exact o6 hT h hv
/-- An extreme point. -/
def gk (P:List Q2) (v:Q2):Prop:=gW P v∧∃ f,bk f v=0∧∀ z,gW P z→z≠v→0 < bk f z
def iE (P Q:List Q2):Prop:=∀ p,gW P p↔gW Q p
theorem iE.symm {P Q:List Q2} (h:iE P Q):iE Q P:=fun p=>(h p).symm
theorem iE.trans {P Q R:List Q2} (h:iE P Q) (g:iE Q R):iE P R:=fun p=>(h p).trans (g p)
theorem iE.rfl' {P:List Q2}:iE P P:=fun p=>Iff.rfl
theorem iE.ov {P Q:List Q2} (h:∀ v,v∈P↔v∈Q):iE P Q:=fun p=>⟨fun hp=>hp.mono fun v hv=>(h v).1 hv,fun hp=>hp.mono fun v hv=>(h v).2 hv⟩
theorem gk.same {P Q:List Q2} {v:Q2} (h:gk P v) (hs:iE P Q):gk Q v :=
 ⟨(hs v).1 h.1,h.2.imp fun f hf=>⟨hf.1,fun z hz aK=>hf.2 z ((hs z).2 hz) aK⟩⟩
theorem Ti (f:Q3):∀ P:List Q2,(∀ v∈P,0 < bk f v)→∃ e:Rat,0 < e∧∀ v∈P,e≤bk f v:=by
 intro P
 induction P with
 | nil=>exact fun _=>⟨1,by grind,fun v hv=>by cases hv⟩
 | cons a P ih =>
  intro h
  obtain ⟨e,he,hP⟩:=ih fun v hv=>h v (List.mem_cons_of_mem _ hv)
  have ha:=h a (List.mem_cons_self ..)
  by_cases hc:e≤bk f a
  ·exact ⟨e,he,fun v hv=>by rcases List.mem_cons.1 hv with rfl | hv; exact hc; exact hP v hv⟩
  ·exact ⟨bk f a,ha,fun v hv=>by
    rcases List.mem_cons.1 hv with rfl | hv
    ·grind
    ·have:=hP v hv; grind⟩
theorem gk.mem {P:List Q2} {v:Q2} (h:gk P v):v∈P:=by
 refine Decidable.byContradiction fun hn=>?_
 obtain ⟨h1,f,J,h3⟩:=h
 obtain ⟨e,he,h4⟩:=Ti f P fun z hz=>h3 z (.ov hz) fun e=>hn (e ▸ hz)
 have:=h1 (f.1,f.2.1,f.2.2+e) fun z hz=>by
  have:=h4 z hz
  have e2:bk (f.1,f.2.1,f.2.2+e) z=bk f z - e:=by simp only [kB]; grind
  rw [e2]; grind
 have e2:bk (f.1,f.2.1,f.2.2+e) v=bk f v - e:=by simp only [kB]; grind
 rw [e2,J] at this
 grind
theorem VS {p v q z:Q2} (h1:aw p v z=0) (J:aw v q z=0) (h:aw p v q≠0):z=v:=by
 rw [fH] at h1 J h
 have a:((v.1 - p.1)*(q.2 - p.2) - (v.2 - p.2)*(q.1 - p.1))*(z.1 - v.1)=0:=by grind
 have b:((v.1 - p.1)*(q.2 - p.2) - (v.2 - p.2)*(q.1 - p.1))*(z.2 - v.2)=0:=by grind
 have a:=(Rat.mul_eq_zero.1 a).resolve_left h
 have b:=(Rat.mul_eq_zero.1 b).resolve_left h
 exact Prod.ext (by grind) (by grind)
/-- Where the border turns, the vertex is extreme. -/
theorem KA {P:List Q2} {p v q:Q2} (hT:bI P) (h1:(p,v)∈aX P) (J:(v,q)∈aX P) (h:aw p v q≠0):gk P v:=by
 refine ⟨.ov (o5 J).1,Ht (oS p v) (oS v q),?_,fun z hz aK=>?_⟩
 ·rw [LX,oi,oi,pk,rm]; grind
 ·rw [LX,oi,oi]
  have a:=Eu hT h1 hz
  have b:=Eu hT J hz
  by_cases h0:aw p v z+aw v q z=0
  ·exact absurd (VS (by grind) (by grind) h) aK
  ·grind
theorem gk.As {P:List Q2} {v a b:Q2} {t:Rat} (h:gk P v) (ha:gW P a) (hb:gW P b) (hav:a≠v) (hbv:b≠v) (h0:0 < t) (h1:t < 1):v≠atR a b t:=fun e=>by
 obtain ⟨_,f,J,h3⟩:=h
 have x:=h3 a ha hav
 have y:=h3 b hb hbv
 rw [e,A2] at J
 have:=Rat.mul_pos (show 0 < 1 - t by grind) x
 have:=Rat.mul_pos h0 y
 grind
/-- All on a line. -/
def Flat (P:List Q2):Prop:=∃ f,mA f∧∀ v∈P,bk f v=0
theorem UG {P:List Q2} {a b:Q2} (h:¬ Flat P) (eH:a≠b):∃ z∈P,aw a b z≠0:=by
 refine Decidable.byContradiction fun hn=>h ⟨oS a b,FK eH,fun v hv=>?_⟩
 rw [oi]
 exact Decidable.byContradiction fun h=>hn ⟨v,hv,h⟩
theorem Flat.mono {P Q:List Q2} (h:Flat Q) (hs:∀ v∈P,v∈Q):Flat P:=h.imp fun f hf=>⟨hf.1,fun v hv=>hf.2 v (hs v hv)⟩
/-- Where the border does not turn, the vertex lies between its neighbours. -/
theorem KB {P:List Q2} {p v q:Q2} (hT:bI P) (hF:¬ Flat P) (h1:(p,v)∈aX P) (J:(v,q)∈aX P) (lP:p≠v) (c4:v≠q) (h:aw p v q=0):∃ t,0 < t∧t < 1∧v=atR p q t:=by
 obtain ⟨z,hz,nj⟩:=UG hF lP
 have a:=o6 hT h1 hz
 have b:=o6 hT J hz
 obtain ⟨s,Pz,oP⟩:∃ s:Rat,q.1 - v.1=s*(v.1 - p.1)∧q.2 - v.2=s*(v.2 - p.2):=by
  rw [fH] at h
  by_cases hx:v.1 - p.1=0
  ·have hy:v.2 - p.2≠0:=fun hy=>lP (Prod.ext (by grind) (by grind))
   refine ⟨(q.2 - v.2) / (v.2 - p.2),?_,?_⟩
   ·rw [hx] at h ⊢
    have:(v.2 - p.2)*(q.1 - p.1)=0:=by grind
    have:=(Rat.mul_eq_zero.1 this).resolve_left hy
    grind
   ·rw [Rat.div_def]; grind
  ·refine ⟨(q.1 - v.1) / (v.1 - p.1),?_,?_⟩
   ·rw [Rat.div_def]; grind
   ·rw [Rat.div_def]
    have:(v.1 - p.1)*(q.2 - v.2)=(v.1 - p.1)*((q.1 - v.1)*(v.1 - p.1)⁻¹*(v.2 - p.2)):=by grind
    have h0:(v.1 - p.1)*((q.2 - v.2) - ((q.1 - v.1)*(v.1 - p.1)⁻¹*(v.2 - p.2)))=0:=by grind
    have:=(Rat.mul_eq_zero.1 h0).resolve_left hx
    grind
 have e:aw v q z=s*aw p v z:=by
  rw [fH,fH,Pz,oP]; grind
 have hs:0 < s:=by
  by_cases h0:s=0
  ·subst h0
   exact absurd (Prod.ext (by grind) (by grind)) c4
  ·by_cases h1:0 < s
   ·exact h1
   ·have:=Rat.mul_pos (show 0 < -s by grind) (show 0 < aw p v z by grind)
    grind
 have aK:1+s≠0:=by grind
 have hi:(1+s)⁻¹*(1+s)=1:=by grind
 have gz:0 < (1+s)⁻¹:=by
  by_cases h1:0 < (1+s)⁻¹
  ·exact h1
  ·have:=Rat.mul_nonneg (show 0≤-(1+s)⁻¹ by grind) (show 0≤1+s by grind)
   grind
 refine ⟨(1+s)⁻¹,gz,?_,?_⟩
 ·have:=Rat.mul_pos gz hs
  grind
 ·unfold atR
  refine Prod.ext ?_ ?_
  ·have:q.1 - p.1=(1+s)*(v.1 - p.1):=by grind
   show v.1=p.1+(q.1 - p.1)*(1+s)⁻¹
   rw [this]; grind
  ·have:q.2 - p.2=(1+s)*(v.2 - p.2):=by grind
   show v.2=p.2+(q.2 - p.2)*(1+s)⁻¹
   rw [this]; grind
theorem UH {α:Type} [DecidableEq α]:∀ {l:List α},(∀ A h B C,l≠A++h::B++h::C)→l.Nodup:=by
 intro l
 induction l with
 | nil=>exact fun _=>.nil
 | cons a l ih =>
  intro h
  rw [List.nodup_cons]
  refine ⟨fun hm=>?_,ih fun A x B C e=>h (a::A) x B C (by rw [e]; rfl)⟩
  obtain ⟨B,C,e⟩:=List.append_of_mem hm
  exact h [] a B C (by rw [e]; rfl)
theorem Flat.uV {A B:List Q2} (h:Flat (A++B)):Flat (B++A):=h.mono fun v hv=>by
 rcases List.mem_append.1 hv with h | h
 ·exact List.mem_append_right _ h
 ·exact List.mem_append_left _ h
/-- No vertex occurs twice. -/
theorem KC {P:List Q2} (hT:bI P) (hF:¬ Flat P) (aK:∀ e∈aX P,e.1≠e.2):P.Nodup:=by
 refine UH fun A h B C e=>?_
 subst e
 have sH:bI (h::B++h::(C++A)):=by
  have:=bI.uV (A:=A) (B:=h::B++h::C) (by simpa using hT)
  simpa using this
 have CY:¬ Flat (h::B++h::(C++A)):=fun J=>hF (by
  have:=Flat.uV (A:=h::B++h::C) (B:=A) (by simpa using J)
  simpa using this)
 have yV:∀ e∈aX (h::B++h::(C++A)),e.1≠e.2:=fun e he=>aK e (by
  have:=AO (A:=h::B++h::C) (B:=A) (e:=e) (by simpa using he)
  simpa using this)
 generalize C++A=D at sH CY yV
 cases B with
 | nil=>exact yV (h,h) (by rw [show h::([]:List Q2)++h::D=h::h::D from rfl,vt]; exact List.mem_cons_self ..) rfl
 | cons q B =>
  cases D with
  | nil =>
   refine yV (h,h) ?_ rfl
   show (h,h)∈cG ((h::q::B++[h])++[h])
   rw [List.append_assoc]
   show (h,h)∈cG (h::q::B++h::[h])
   rw [vr]
   exact List.mem_append_right _ (List.mem_cons_self ..)
  | cons r D =>
   have e1:(h,q)∈aX (h::(q::B)++h::r::D):=by
    show (h,q)∈cG (h::q::(B++h::r::D++[h]))
    exact List.mem_cons_self ..
   have e2:(h,r)∈aX (h::(q::B)++h::r::D):=by
    show (h,r)∈cG ((h::(q::B)++h::r::D)++[h])
    rw [List.append_assoc]
    show (h,r)∈cG (h::(q::B)++h::(r::D++[h]))
    rw [vr]
    exact List.mem_append_right _ (List.mem_cons_self ..)
   have hq:h≠q:=yV _ e1
   have hr:h≠r:=yV _ e2
   have hD:∀ z∈r::D,aw h q z=0:=fun z hz=>by
    have a:=o6 sH e1 (z:=z) (List.mem_append_right _ (List.mem_cons_of_mem _ hz))
    have hl:bI (q::B++h::r::D):=sH.2
    have:=bI.mid (A:=B) (B:=r::D) (x:=z) (v:=q) (w:=h)
    have hb:=bI.back (A:=B) (B:=r::D) (x:=z) (v:=q) (w:=h) hl (by
     show z∈h::(r::D)++[q]
     exact List.mem_append_left _ (List.mem_cons_of_mem _ hz))
    have:aw q h z=-aw h q z:=by rw [fH,fH]; grind
    grind
   have hB:∀ z∈q::B,aw h r z=0:=fun z hz=>by
    have a:=o6 sH e2 (z:=z) (List.mem_append_left _ (List.mem_cons_of_mem _ hz))
    have hl:List.Pairwise (fun b c=>0≤aw h b c) (q::B++h::r::D):=sH.1
    rw [List.pairwise_append] at hl
    have:=hl.2.2 z hz r (List.mem_cons_of_mem _ (List.mem_cons_self ..))
    rw [xV] at this
    grind
   refine CY ⟨oS h q,FK hq,fun v hv=>?_⟩
   rw [oi]
   have Iz:=hB q (List.mem_cons_self ..)
   rcases List.mem_append.1 hv with hv | hv
   ·rcases List.mem_cons.1 hv with rfl | hv
    ·exact rm _ _
    ·have Il:=hB v hv
     rw [fH] at Il Iz ⊢
     have Ho:r.1 - h.1≠0∨r.2 - h.2≠0:=by
      by_cases x:r.1 - h.1=0
      ·right; exact fun y=>hr (Prod.ext (by grind) (by grind))
      ·exact .inl x
     rcases Ho with x | x
     ·have:(r.1 - h.1)*((q.1 - h.1)*(v.2 - h.2) - (q.2 - h.2)*(v.1 - h.1))=0:=by grind
      exact (Rat.mul_eq_zero.1 this).resolve_left x
     ·have:(r.2 - h.2)*((q.1 - h.1)*(v.2 - h.2) - (q.2 - h.2)*(v.1 - h.1))=0:=by grind
      exact (Rat.mul_eq_zero.1 this).resolve_left x
   ·rcases List.mem_cons.1 hv with rfl | hv
    ·exact rm _ _
    ·exact hD v hv
/-- Sorted lists with the same elements are equal. -/
theorem Qm {α:Type} {R:α→α→Prop} (has:∀ a b,R a b→¬ R b a):∀ {l m:List α},l.Pairwise R→m.Pairwise R→(∀ x,x∈l↔x∈m)→l=m:=by
 intro l
 induction l with
 | nil =>
  intro m _ _ h
  cases m with
  | nil=>rfl
  | cons b m=>have:=(h b).2 (List.mem_cons_self ..); cases this
 | cons a l ih =>
  intro m hl hm h
  cases m with
  | nil=>have:=(h a).1 (List.mem_cons_self ..); cases this
  | cons b m =>
   rw [List.pairwise_cons] at hl hm
   have PA:∀ x,¬ R x x:=fun x hx=>has x x hx hx
   have eH:a=b:=by
    rcases List.mem_cons.1 ((h a).1 (List.mem_cons_self ..)) with e | e
    ·exact e
    ·rcases List.mem_cons.1 ((h b).2 (List.mem_cons_self ..)) with e2 | e2
     ·exact e2.symm
     ·exact absurd (hl.1 b e2) (has _ _ (hm.1 a e))
   subst eH
   rw [ih hl.2 hm.2 fun x=>⟨fun hx=>?_,fun hx=>?_⟩]
   ·rcases List.mem_cons.1 ((h x).1 (List.mem_cons_of_mem _ hx)) with e | e
    ·subst e; exact absurd (hl.1 _ hx) (PA _)
    ·exact e
   ·rcases List.mem_cons.1 ((h x).2 (List.mem_cons_of_mem _ hx)) with e | e
    ·subst e; exact absurd (hm.1 _ hx) (PA _)
    ·exact e
theorem Aa {P:List Q2} {a b c:Q2} (ha:gk P a) (hb:gk P b) (hc:gk P c) (eH:a≠b) (zK:a≠c) (oM:b≠c):aw a b c≠0:=fun h=>by
 obtain ⟨s,Pz,oP⟩:∃ s:Rat,c.1 - a.1=s*(b.1 - a.1)∧c.2 - a.2=s*(b.2 - a.2):=by
  rw [fH] at h
  by_cases hx:b.1 - a.1=0
  ·have hy:b.2 - a.2≠0:=fun hy=>eH (Prod.ext (by grind) (by grind))
   refine ⟨(c.2 - a.2) / (b.2 - a.2),?_,?_⟩
   ·rw [hx] at h ⊢
    have:(b.2 - a.2)*(c.1 - a.1)=0:=by grind
    have:=(Rat.mul_eq_zero.1 this).resolve_left hy
    grind
   ·rw [Rat.div_def]; grind
  ·refine ⟨(c.1 - a.1) / (b.1 - a.1),?_,?_⟩
   ·rw [Rat.div_def]; grind
   ·rw [Rat.div_def]
    have h0:(b.1 - a.1)*((c.2 - a.2) - ((c.1 - a.1)*(b.1 - a.1)⁻¹*(b.2 - a.2)))=0:=by grind
    have:=(Rat.mul_eq_zero.1 h0).resolve_left hx
    grind
 have h0:s≠0:=fun e=>by subst e; exact zK (Prod.ext (by grind) (by grind))
 have h1:s≠1:=fun e=>by subst e; exact oM (Prod.ext (by grind) (by grind))
 have inv:∀ x:Rat,0 < x→0 < x⁻¹∧x⁻¹*x=1:=fun x hx=>by
  have e:x⁻¹*x=1:=by grind
  refine ⟨?_,e⟩
  by_cases h1:0 < x⁻¹
  ·exact h1
  ·have:=Rat.mul_nonneg (show 0≤-x⁻¹ by grind) (show 0≤x by grind)
   grind
 rcases Py s with h | h | h
 ·-- a lies between c and b
  obtain ⟨i0,i1⟩:=inv (1 - s) (by grind)
  refine ha.As hc.1 hb.1 (Ne.symm zK) (Ne.symm eH) (t:=(-s)*(1 - s)⁻¹) (Rat.mul_pos (by grind) i0) ?_ ?_
  ·grind
  ·unfold atR; exact Prod.ext (by grind) (by grind)
 ·exact h0 h
 ·by_cases J:s < 1
  ·-- c lies between a and b
   refine hc.As ha.1 hb.1 zK oM h J ?_
   unfold atR; exact Prod.ext (by grind) (by grind)
  ·obtain ⟨i0,i1⟩:=inv s h
   refine hb.As ha.1 hc.1 eH (Ne.symm oM) (t:=s⁻¹) i0 ?_ ?_
   ·have:=Rat.mul_pos i0 (show 0 < s - 1 by grind); grind
   ·unfold atR; exact Prod.ext (by grind) (by grind)
/-- A ring of extreme points is given by the hull and its first point. -/
theorem Rb {P:List Q2} {h:Q2} {A B:List Q2} (hA:bI (h::A)) (hB:bI (h::B)) (nA:(h::A).Nodup) (nB:(h::B).Nodup) (eA:∀ v,v∈h::A↔gk P v) (eB:∀ v,v∈h::B↔gk P v):A=B:=by
 have key:∀ {A:List Q2},bI (h::A)→(h::A).Nodup→(∀ v,v∈h::A↔gk P v)→A.Pairwise (fun a b=>0 < aw h a b):=by
  intro A hA nA eA
  rw [List.nodup_cons] at nA
  have h1:List.Pairwise (fun a b=>0≤aw h a b) A:=hA.1
  have J:List.Pairwise (fun a b=>a≠b) A:=nA.2
  have h3:=List.Pairwise.and_mem.1 (h1.and J)
  refine h3.imp fun {a b} ⟨ha,hb,h4,h5⟩=>?_
  have:=Aa ((eA h).1 (List.mem_cons_self ..)) ((eA a).1 (List.mem_cons_of_mem _ ha)) ((eA b).1 (List.mem_cons_of_mem _ hb)) (fun e=>nA.1 (e ▸ ha)) (fun e=>nA.1 (e ▸ hb)) h5
  grind
 rw [List.nodup_cons] at nA nB
 refine Qm (R:=fun a b=>0 < aw h a b) (fun a b x y=>by rw [xV] at y; grind) (key hA (List.nodup_cons.2 nA) eA) (key hB (List.nodup_cons.2 nB) eB) fun x=>?_
 constructor
 ·intro hx
  have:=(eB x).2 ((eA x).1 (List.mem_cons_of_mem _ hx))
  rcases List.mem_cons.1 this with e | e
  ·subst e; exact absurd hx nA.1
  ·exact e
 ·intro hx
  have:=(eA x).2 ((eB x).1 (List.mem_cons_of_mem _ hx))
  rcases List.mem_cons.1 this with e | e
  ·subst e; exact absurd hx nB.1
  ·exact e
end Go.Ae
/- Convex polygons: needless vertices left out. -/
namespace Go.Ae
open Go
def aE (l:List Q2) (k:Nat):Q2:=l.getD k (0,0)
theorem gI {l:List Q2} {k:Nat} (h:k < l.length):l[k]?=some (aE l k):=by
 unfold aE; rw [List.getD_eq_getElem?_getD,List.getElem?_eq_getElem h]; rfl
theorem rA {l:List Q2} {k:Nat} {p:Q2} (h:l[k]?=some p):aE l k=p:=by
 unfold aE; rw [List.getD_eq_getElem?_getD,h]; rfl
theorem fj {l:List Q2} {k:Nat} (h:k < l.length):aE l k∈l:=List.mem_of_getElem? (gI h)
theorem v7 {l:List Q2} {v:Q2} (h:v∈l):∃ k,k < l.length∧aE l k=v:=by
 obtain ⟨k,hk,rfl⟩:=List.getElem_of_mem h
 exact ⟨k,hk,rA (List.getElem?_eq_getElem hk)⟩
def bd (n k:Nat):Nat:=(k+1) % n
def eP (n k:Nat):Nat:=(k+n - 1) % n
theorem c6 {n k:Nat} (h:k < n):bd n k < n:=Nat.mod_lt _ (by omega)
theorem j9 {n k:Nat} (h:k < n):eP n k < n:=Nat.mod_lt _ (by omega)
theorem FL {n k:Nat} (h:k < n):bd n (eP n k)=k:=by
 unfold bd eP
 rw [Nat.mod_add_mod,show k+n - 1+1=k+n by omega,Nat.add_mod_right,Nat.mod_eq_of_lt h]
theorem FM {n k:Nat} (h:k < n):eP n (bd n k)=k:=by
 unfold bd eP
 rcases Nat.lt_or_eq_of_le (show k+1≤n from h) with h1 | h1
 ·rw [Nat.mod_eq_of_lt h1,show k+1+n - 1=k+n by omega,Nat.add_mod_right,Nat.mod_eq_of_lt h]
 ·rw [h1,Nat.mod_self,show 0+n - 1=k by omega,Nat.mod_eq_of_lt h]
theorem wq {n k:Nat} (h:k < n) (hn:1 < n):bd n k≠k:=fun e=>by
 unfold bd at e
 rcases Nat.lt_or_eq_of_le (show k+1≤n from h) with h1 | h1
 ·rw [Nat.mod_eq_of_lt h1] at e; omega
 ·rw [h1,Nat.mod_self] at e; omega
theorem Ns {n k:Nat} (h:k < n) (hn:1 < n):eP n k≠k:=fun e=>by
 have h1:=FL h
 rw [e] at h1
 exact wq h hn h1
theorem mJ {l:List Q2} {k:Nat} (h:k < l.length):(aE l k,aE l (bd l.length k))∈aX l:=List.mem_of_getElem? (qW (gI h) (gI (c6 h)))
theorem q8 {l:List Q2} {k:Nat} (h:k < l.length):(aE l (eP l.length k),aE l k)∈aX l:=by
 have:=mJ (l:=l) (j9 h)
 rwa [FL h] at this
theorem E6 {l:List Q2} {e:Q2 × Q2} (h:e∈aX l):∃ k,k < l.length∧e=(aE l k,aE l (bd l.length k)):=by
 obtain ⟨i,hi,rfl⟩:=List.getElem_of_mem h
 have aP:i < l.length:=by rwa [kS] at hi
 refine ⟨i,aP,?_⟩
 have:=qW (gI aP) (gI (c6 aP))
 rw [List.getElem?_eq_getElem hi] at this
 exact Option.some.inj this
/-- A vertex that is not needed. -/
def nd (l:List Q2) (k:Nat):Prop:=1 < l.length∧(aE l k=aE l (bd l.length k)∨2 < l.length∧aw (aE l (eP l.length k)) (aE l k) (aE l (bd l.length k))=0)
instance (l:List Q2) (k:Nat):Decidable (nd l k):=inferInstanceAs (Decidable (_∧_))
def kV (l:List Q2):Option Nat:=(List.range l.length).find? fun k=>decide (nd l k)
def Gg:Nat→List Q2→List Q2
 | 0,l=>l
 | n+1,l=>match kV l with | none=>l | some k=>Gg n (l.eraseIdx k)
def fI (l:List Q2):List Q2:=Gg l.length l
theorem QF {l:List Q2} (h:∀ k,k < l.length→¬ nd l k):kV l=none:=by
 unfold kV
 rw [List.find?_eq_none]
 intro k hk
 simpa using h k (List.mem_range.1 hk)
theorem Qn {l:List Q2} (h:kV l=none):∀ k,k < l.length→¬ nd l k:=fun k hk=>by
 unfold kV at h
 rw [List.find?_eq_none] at h
 simpa using h k (List.mem_range.2 hk)
theorem Dl {l:List Q2} {k:Nat} (h:kV l=some k):k < l.length∧nd l k:=by
 unfold kV at h
 rw [List.find?_range_eq_some] at h
 exact ⟨List.mem_range.1 h.2.1,by simpa using h.1⟩
theorem DA {l:List Q2} (h:kV l=none):fI l=l:=by
 unfold fI
 cases l with
 | nil=>rfl
 | cons a l=>show (match kV (a::l) with | none=>_ | some k=>_)=_; rw [h]
theorem DC {l:List Q2} {k:Nat} (h:kV l=some k):fI l=fI (l.eraseIdx k):=by
 have hk:=(Dl h).1
 unfold fI
 rw [List.length_eraseIdx_of_lt hk]
 obtain ⟨n,hn⟩:∃ n,l.length=n+1:=⟨l.length - 1,by omega⟩
 rw [hn]
 show (match kV l with | none=>l | some k=>Gg n (l.eraseIdx k))=_
 rw [h]; rfl
theorem Ev {C:List Q2→Prop} (hs:∀ l k,kV l=some k→C (l.eraseIdx k)→C l) (h0:∀ l,kV l=none→C l):∀ (n:Nat) (l:List Q2),l.length=n→C l:=by
 intro n
 induction n with
 | zero=>intro l hl; exact h0 l (QF fun k hk=>by omega)
 | succ n ih =>
  intro l hl
  cases e:kV l with
  | none=>exact h0 l e
  | some k=>exact hs l k e (ih _ (by rw [List.length_eraseIdx_of_lt (Dl e).1]; omega))
theorem Ew (l:List Q2):(fI l).Sublist l :=
 Ev (C:=fun l=>(fI l).Sublist l) (fun l k h hc=>by rw [DC h]; exact hc.trans (List.eraseIdx_sublist ..)) (fun l h=>by rw [DA h]; exact List.Sublist.refl _) _ l rfl
theorem LY (l:List Q2):∀ k,k < (fI l).length→¬ nd (fI l) k :=
 Ev (C:=fun l=>∀ k,k < (fI l).length→¬ nd (fI l) k) (fun l k h hc=>by rw [DC h]; exact hc) (fun l h=>by rw [DA h]; exact Qn h) _ l rfl
theorem mem_erase {l:List Q2} {k j:Nat} (hj:j < l.length) (h:j≠k):aE l j∈l.eraseIdx k:=by
 rw [List.mem_eraseIdx_iff_getElem?]
 exact ⟨j,h,gI hj⟩
theorem R1 {l:List Q2} {k:Nat} {v:Q2} (h:v∈l):v∈l.eraseIdx k∨(k < l.length∧v=aE l k):=by
 obtain ⟨j,hj,rfl⟩:=v7 h
 by_cases e:j=k
 ·subst e; exact .inr ⟨hj,rfl⟩
 ·exact .inl (mem_erase hj e)
theorem E7 {f:Q3} {a b:Q2} {t:Rat} (ha:bk f a=0) (hb:bk f b=0):bk f (atR a b t)=0:=by rw [A2,ha,hb]; grind
theorem R4 {l:List Q2} {k:Nat} (hT:bI l) (hF:¬ Flat l) (hk:k < l.length) (h:nd l k):iE (l.eraseIdx k) l∧¬ Flat (l.eraseIdx k):=by
 obtain ⟨h1,J⟩:=h
 have key:∀ (P:Q2→Prop),(∀ v∈l.eraseIdx k,P v)→(∀ a b t,P a→P b→0 < t→t < 1→P (atR a b t))→∀ v∈l,P v:=by
  intro P hP hm v hv
  rcases R1 (k:=k) hv with h | ⟨_,rfl⟩
  ·exact hP v h
  ·by_cases e1:aE l k=aE l (bd l.length k)
   ·rw [e1]; exact hP _ (mem_erase (c6 hk) (wq hk h1))
   ·by_cases e2:aE l (eP l.length k)=aE l k
    ·rw [← e2]; exact hP _ (mem_erase (j9 hk) (Ns hk h1))
    ·rcases J with J | ⟨J,h3⟩
     ·exact absurd J e1
     ·obtain ⟨t,t0,t1,ht⟩:=KB hT hF (q8 hk) (mJ hk) e2 e1 h3
      rw [ht]
      exact hm _ _ _ (hP _ (mem_erase (j9 hk) (Ns hk h1))) (hP _ (mem_erase (c6 hk) (wq hk h1))) t0 t1
 refine ⟨fun p=>⟨fun hp=>hp.mono fun v hv=>(List.eraseIdx_sublist ..).subset hv,fun hp=>hp.trans ?_⟩,fun ⟨f,hf,hz⟩=>hF ⟨f,hf,?_⟩⟩
 ·exact key _ (fun v hv=>.ov hv) fun a b t ha hb t0 t1=>ha.at hb (by grind) (by grind)
 ·exact key _ hz fun a b t ha hb _ _=>E7 ha hb
theorem DS {l:List Q2} (hT:bI l) (hF:¬ Flat l):iE (fI l) l∧¬ Flat (fI l) :=
 Ev (C:=fun l=>bI l→¬ Flat l→iE (fI l) l∧¬ Flat (fI l)) (fun l k h hc hT hF=>by
  rw [DC h]
  have J:=Dl h
  obtain ⟨a,b⟩:=R4 hT hF J.1 J.2
  obtain ⟨c,d⟩:=hc (hT.sublist (List.eraseIdx_sublist ..)) b
  exact ⟨c.trans a,d⟩) (fun l h hT hF=>by rw [DA h]; exact ⟨.rfl',hF⟩) _ l rfl hT hF
theorem Bj {P:List Q2} (h:Flat P) {a b c:Q2} (ha:a∈P) (hb:b∈P) (hc:c∈P):aw a b c=0:=by
 obtain ⟨f,hf,hz⟩:=h
 have x:=hz a ha
 have y:=hz b hb
 have z:=hz c hc
 rw [kB] at x y z
 rw [fH]
 by_cases h0:f.1=0
 ·have h1:f.2.1≠0:=fun e=>hf ⟨h0,e⟩
  have e:f.2.1*((b.1 - a.1)*(c.2 - a.2) - (b.2 - a.2)*(c.1 - a.1))=0:=by grind
  exact (Rat.mul_eq_zero.1 e).resolve_left h1
 ·have e:f.1*((b.1 - a.1)*(c.2 - a.2) - (b.2 - a.2)*(c.1 - a.1))=0:=by grind
  exact (Rat.mul_eq_zero.1 e).resolve_left h0
theorem Ds (a b:Q2):∃ f:Q3,mA f∧bk f a=0∧bk f b=0:=by
 by_cases h:a=b
 ·subst h
  exact ⟨(1,0,a.1),fun h=>absurd (show (1:Rat)=0 from h.1) (by decide),by rw [kB]; grind,by rw [kB]; grind⟩
 ·exact ⟨oS a b,FK h,by rw [oi,rm],by rw [oi,pk]⟩
theorem R5 {P:List Q2} (h:P.length≤2):Flat P:=by
 match P,h with
 | [],_=>exact ⟨(1,0,0),fun h=>absurd h.1 (by decide),fun v hv=>by cases hv⟩
 | [a],_ =>
  obtain ⟨f,hf,h1,_⟩:=Ds a a
  exact ⟨f,hf,fun v hv=>by simp at hv; rw [hv]; exact h1⟩
 | [a,b],_ =>
  obtain ⟨f,hf,h1,J⟩:=Ds a b
  exact ⟨f,hf,fun v hv=>by simp at hv; rcases hv with rfl | rfl <;> assumption⟩
 | _::_::_::_,h=>simp at h
theorem R6 {l:List Q2} (hF:Flat l):(fI l).length≤2:=by
 refine Decidable.byContradiction fun h=>?_
 have h0:=LY l 0 (by omega)
 refine h0 ⟨by omega,.inr ⟨by omega,?_⟩⟩
 have CY:Flat (fI l):=hF.mono fun v hv=>(Ew l).subset hv
 exact Bj CY (fj (j9 (by omega))) (fj (by omega)) (fj (c6 (by omega)))
/-- A ring: it turns at each vertex. -/
structure Ring (P:List Q2):Prop where
 fJ:bI P
 three:3≤P.length
 wu:∀ k,k < P.length→0 < aw (aE P (eP P.length k)) (aE P k) (aE P (bd P.length k))
theorem Ring.ne {P:List Q2} (h:Ring P):∀ e∈aX P,e.1≠e.2:=fun e he=>by
 obtain ⟨k,hk,rfl⟩:=E6 he
 intro e2
 have:=h.wu k hk
 simp only at e2
 rw [e2,pk] at this
 grind
theorem Ring.ext {P:List Q2} (h:Ring P) {v:Q2}:v∈P↔gk P v:=by
 refine ⟨fun hv=>?_,gk.mem⟩
 obtain ⟨k,hk,rfl⟩:=v7 hv
 have:=h.wu k hk
 exact KA h.fJ (q8 hk) (mJ hk) (by grind)
theorem Ring.aa0 {P:List Q2} (h:Ring P):¬ Flat P:=fun hF=>by
 have hk:0 < P.length:=by have:=h.three; omega
 have:=h.wu 0 hk
 rw [Bj hF (fj (j9 hk)) (fj hk) (fj (c6 hk))] at this
 grind
theorem Ring.nodup {P:List Q2} (h:Ring P):P.Nodup:=KC h.fJ h.aa0 h.ne
theorem VT {P:List Q2} (hT:bI P) (hF:¬ Flat P) (hn:∀ k,k < P.length→¬ nd P k):Ring P:=by
 have h3:3≤P.length:=Decidable.byContradiction fun h=>hF (R5 (by omega))
 refine ⟨hT,h3,fun k hk=>?_⟩
 have a:=o6 hT (q8 hk) (fj (c6 hk))
 have b:aw (aE P (eP P.length k)) (aE P k) (aE P (bd P.length k))≠0:=fun e=>hn k hk ⟨by omega,.inr ⟨by omega,e⟩⟩
 grind
theorem KD {l:List Q2} (hT:bI l) (hF:¬ Flat l):Ring (fI l):=VT (hT.sublist (Ew l)) (DS hT hF).2 (LY l)
/-! the least first -/
def nq (l:List Q2):Nat→Nat
 | 0=>0
 | i+1=>if fL (aE l i) (aE l (nq l i)) < 0 then i else nq l i
def pF (l:List Q2):Nat:=nq l l.length
def eW (l:List Q2):List Q2:=l.drop (pF l)++l.take (pF l)
def iw (a b:Q2):Prop:=a.1 < b.1∨a.1=b.1∧a.2≤b.2
theorem tA {a b:Q2}:iw a b↔¬ fL b a < 0:=by
 unfold iw fL
 rcases AA (b.1 - a.1) with ⟨h1,J⟩ | ⟨h1,J⟩ | ⟨h1,J⟩
 ·rw [E5 b.1 a.1,J]
  constructor
  ·rintro (h | ⟨h,_⟩) <;> grind
  ·intro h; exact absurd (by rw [if_pos (by decide)]; decide) h
 ·rw [E5 b.1 a.1,J,if_neg (by decide),E3]
  constructor
  ·rintro (h | ⟨h,h3⟩) <;> grind
  ·intro h; right; exact ⟨by grind,by grind⟩
 ·rw [E5 b.1 a.1,J]
  constructor
  ·intro _; rw [if_pos (by decide)]; decide
  ·intro _; left; grind
theorem Tj {a b c:Q2} (h:iw a b) (g:iw b c):iw a c:=by unfold iw at *; grind
theorem LZ {a b:Q2} (h:iw a b) (g:iw b a):a=b:=by
 unfold iw at *
 exact Prod.ext (by grind) (by grind)
theorem UI (a:Q2):iw a a:=by unfold iw; right; exact ⟨rfl,by grind⟩
theorem Tk {a b:Q2} (h:¬ iw a b):iw b a:=by unfold iw at *; grind
theorem JG (l:List Q2):∀ i,i≤l.length→(0 < l.length→nq l i < l.length)∧(∀ j,j < i→iw (aE l (nq l i)) (aE l j)):=by
 intro i
 induction i with
 | zero=>intro _; exact ⟨fun h=>h,fun j hj=>absurd hj (Nat.not_lt_zero _)⟩
 | succ i ih =>
  intro hi
  obtain ⟨h1,J⟩:=ih (by omega)
  unfold nq
  split
  ·rename_i hc
   have hle:iw (aE l i) (aE l (nq l i)):=Tk fun h=>(tA.1 h) hc
   refine ⟨fun _=>by omega,fun j hj=>?_⟩
   rcases Nat.lt_or_eq_of_le (Nat.le_of_lt_succ hj) with h | h
   ·exact Tj hle (J j h)
   ·subst h; exact UI _
  ·rename_i hc
   refine ⟨h1,fun j hj=>?_⟩
   rcases Nat.lt_or_eq_of_le (Nat.le_of_lt_succ hj) with h | h
   ·exact J j h
   ·subst h; exact tA.2 hc
theorem tf {l:List Q2} {v:Q2}:v∈eW l↔v∈l:=by
 unfold eW
 rw [List.mem_append]
 constructor
 ·rintro (h | h)
  ·exact List.mem_of_mem_drop h
  ·exact List.mem_of_mem_take h
 ·intro h
  rw [← List.take_append_drop (pF l) l,List.mem_append] at h
  exact h.symm
theorem At (l:List Q2):(eW l).length=l.length:=by
 unfold eW
 rw [List.length_append,List.length_drop,List.length_take]; omega
theorem Ex {l:List Q2} (h:bI l):bI (eW l):=bI.uV (by rw [List.take_append_drop]; exact h)
theorem DT {l:List Q2} (h:l.Nodup):(eW l).Nodup:=by
 have hp:(eW l).Perm l:=by
  unfold eW
  refine List.perm_append_comm.trans ?_
  rw [List.take_append_drop]
 exact hp.nodup_iff.2 h
theorem Ey {l:List Q2} (h:l≠[]):∃ a A,eW l=a::A∧∀ v∈l,iw a v:=by
 have hl:0 < l.length:=List.length_pos_iff.2 h
 have hs:=JG l l.length (Nat.le_refl _)
 refine ⟨aE l (pF l),l.drop (pF l+1)++l.take (pF l),?_,fun v hv=>?_⟩
 ·unfold eW
  have ak:pF l < l.length:=hs.1 hl
  rw [List.drop_eq_getElem_cons ak]
  have:l[pF l]'ak=aE l (pF l):=by
   have:=gI ak
   rw [List.getElem?_eq_getElem ak] at this
   exact Option.some.inj this
  rw [List.cons_append,this]
 ·obtain ⟨j,hj,rfl⟩:=v7 hv
  exact hs.2 j hj
/-- Rings of the same points, from the least one on, are equal. -/
theorem QG {P A B:List Q2} (hA:bI A) (hB:bI B) (nA:A.Nodup) (nB:B.Nodup) (eA:∀ v,v∈A↔gk P v) (eB:∀ v,v∈B↔gk P v):eW A=eW B:=by
 by_cases xm:A=[]
 ·subst xm
  have:B=[]:=by
   cases B with
   | nil=>rfl
   | cons b B=>have:=(eA b).2 ((eB b).1 (List.mem_cons_self ..)); cases this
  rw [this]
 ·have hB0:B≠[]:=fun e=>by
   subst e
   cases A with
   | nil=>exact xm rfl
   | cons b B=>have:=(eB b).2 ((eA b).1 (List.mem_cons_self ..)); cases this
  obtain ⟨a,A',ha,la⟩:=Ey xm
  obtain ⟨b,B',hb,lb⟩:=Ey hB0
  have ha':a∈A:=tf.1 (by rw [ha]; exact List.mem_cons_self ..)
  have bD:b∈B:=tf.1 (by rw [hb]; exact List.mem_cons_self ..)
  have eH:a=b:=LZ (la b ((eA b).2 ((eB b).1 bD))) (lb a ((eB a).2 ((eA a).1 ha')))
  subst eH
  rw [ha,hb]
  congr 1
  refine Rb (P:=P) (h:=a) (by rw [← ha]; exact Ex hA) (by rw [← hb]; exact Ex hB) (by rw [← ha]; exact DT nA) (by rw [← hb]; exact DT nB) (fun v=>?_) (fun v=>?_)
  ·rw [← ha,tf]; exact eA v
  ·rw [← hb,tf]; exact eB v
theorem gk.iff {P Q:List Q2} (h:iE P Q) (v:Q2):gk P v↔gk Q v:=⟨fun x=>x.same h,fun x=>x.same h.symm⟩
end Go.Ae
/- Convex polygons: the reference's ring is the program's. -/
namespace Go.Ae
open Go
theorem og {a b:Q2}:fL a b=0↔a=b:=Tf.trans ⟨fun h=>Prod.ext h.1 h.2,fun h=>by rw [h]; exact ⟨rfl,rfl⟩⟩
def mT (e:Q2 × Q2):List Q2:=if fL e.1 e.2≠0 then [e.1] else []
def gB (l:List Q2):List Q2:=(aX l).flatMap mT
def nC (l:List Q2) (i:Nat):List Q2:=if aw (aE l (eP l.length i)) (aE l i) (aE l (bd l.length i))≠0 then [aE l i] else []
def jE (l:List Q2):List Q2:=(List.range l.length).flatMap (nC l)
def fR (l:List Q2):List Q2:=if (jE (gB l)).length < 3 then [] else eW (jE (gB l))
theorem DD {α β:Type} (g:α→β) (f:α→List β) (h:∀ a,(f a).Sublist [g a]):∀ l:List α,(l.flatMap f).Sublist (l.map g)
 | []=>.slnil
 | a::l=>by
  rw [List.flatMap_cons,List.map_cons]
  exact (h a).append (DD g f h l)
theorem Tl {α:Type} (l:List α):(aX l).map Prod.fst=l:=by
 refine List.ext_getElem (by rw [List.length_map,kS]) fun i h1 J=>?_
 have h3:(i+1) % l.length < l.length:=Nat.mod_lt _ (by omega)
 have:=qW (List.getElem?_eq_getElem J) (List.getElem?_eq_getElem h3)
 rw [List.getElem_map]
 rw [List.length_map] at h1
 rw [List.getElem?_eq_getElem h1] at this
 rw [Option.some.inj this]
theorem xz (l:List Q2):(gB l).Sublist l:=by
 have:=DD Prod.fst mT (fun e=>by
  unfold mT
  split
  ·exact List.Sublist.refl _
  ·exact List.nil_sublist _) (aX l)
 rw [Tl] at this
 exact this
theorem VU (l:List Q2):(List.range l.length).map (aE l)=l:=by
 refine List.ext_getElem (by simp) fun i h1 J=>?_
 simp
 exact rA (List.getElem?_eq_getElem J)
theorem Au (l:List Q2):(jE l).Sublist l:=by
 have:=DD (aE l) (nC l) (fun e=>by
  unfold nC
  split
  ·exact List.Sublist.refl _
  ·exact List.nil_sublist _) (List.range l.length)
 rw [VU] at this
 exact this
theorem VV (z:Q2):∀ (L:List Q2) (a:Q2),(a::L).getLast?=some z→((cG (a::L)).flatMap mT++[z]).head?=some a∧∀ e∈cG ((cG (a::L)).flatMap mT++[z]),e.1≠e.2:=by
 intro L
 induction L with
 | nil =>
  intro a h
  simp at h
  subst h
  exact ⟨rfl,fun e he=>by cases he⟩
 | cons b L ih =>
  intro a h
  obtain ⟨h1,J⟩:=ih b (by rw [List.getLast?_cons_cons] at h; exact h)
  rw [lU,List.flatMap_cons,List.append_assoc]
  obtain ⟨X,hX⟩:∃ X,X=(cG (b::L)).flatMap mT++[z]:=⟨_,rfl⟩
  rw [← hX] at h1 J ⊢
  unfold mT
  by_cases eH:a=b
  ·rw [if_neg (by simp only [ne_eq]; exact fun h=>h (og.2 eH))]
   rw [eH]; exact ⟨h1,J⟩
  ·rw [if_pos (fun h=>eH (og.1 h))]
   refine ⟨rfl,?_⟩
   cases X with
   | nil=>simp at h1
   | cons c X =>
    simp at h1
    subst h1
    intro e he
    rw [show [(a,c).1]++c::X=a::c::X from rfl,lU] at he
    rcases List.mem_cons.1 he with rfl | he
    ·exact eH
    ·exact J e he
theorem J1 (l:List Q2):∀ e∈aX (gB l),e.1≠e.2:=by
 cases l with
 | nil=>intro e he; cases he
 | cons h B =>
  obtain ⟨h1,J⟩:=VV h (B++[h]) h (by rw [← List.cons_append,List.getLast?_append]; rfl)
  have hd:gB (h::B)=(cG (h::(B++[h]))).flatMap mT:=rfl
  rw [← hd] at h1 J
  cases hD:gB (h::B) with
  | nil=>intro e he; cases he
  | cons d D =>
   rw [hD] at h1 J
   simp at h1
   subst h1
   intro e he
   exact J e he
theorem J2 {α:Type} {l m:List α} {e:α × α} (h:e∈cG l):e∈cG (l++m):=by
 obtain ⟨A,B,rfl⟩:=JF h
 rw [List.append_assoc,List.cons_append,vr]
 exact List.mem_append_right _ (List.mem_cons_self ..)
theorem leave {v:Q2}:∀ (l:List Q2),(∃ w∈l,w≠v)→∃ y,(v,y)∈cG (v::l)∧v≠y:=by
 intro l
 induction l with
 | nil=>rintro ⟨w,hw,_⟩; cases hw
 | cons b l ih =>
  rintro ⟨w,hw,aK⟩
  by_cases hb:b=v
  ·subst hb
   rcases List.mem_cons.1 hw with rfl | hw
   ·exact absurd rfl aK
   ·obtain ⟨y,h1,J⟩:=ih ⟨w,hw,aK⟩
    exact ⟨y,List.mem_cons_of_mem _ h1,J⟩
  ·exact ⟨b,List.mem_cons_self ..,Ne.symm hb⟩
theorem JH {l:List Q2} (hF:¬ Flat l) {v:Q2}:v∈gB l↔v∈l:=by
 refine ⟨fun h=>(xz l).subset h,fun h=>?_⟩
 obtain ⟨w,hw,aK⟩:∃ w∈l,w≠v:=by
  refine Decidable.byContradiction fun hn=>hF ?_
  obtain ⟨f,hf,h1,_⟩:=Ds v v
  exact ⟨f,hf,fun x hx=>by
   have:x=v:=Decidable.byContradiction fun h=>hn ⟨x,hx,h⟩
   rw [this]; exact h1⟩
 obtain ⟨A,B,rfl⟩:=List.append_of_mem h
 obtain ⟨y,h1,J⟩:=leave (v:=v) (B++A) ⟨w,by
  rcases List.mem_append.1 hw with h | h
  ·exact List.mem_append_right _ h
  ·rcases List.mem_cons.1 h with h | h
   ·exact absurd h aK
   ·exact List.mem_append_left _ h,aK⟩
 have he:(v,y)∈aX (A++v::B):=AO (A:=v::B) (J2 (m:=[v]) h1)
 unfold gB
 refine List.mem_flatMap.2 ⟨_,he,?_⟩
 unfold mT
 rw [if_pos (fun h=>J (og.1 h))]
 exact List.mem_cons_self ..
theorem R7 {D:List Q2} (hT:bI D) (hF:¬ Flat D) (aK:∀ e∈aX D,e.1≠e.2) (v:Q2):v∈jE D↔gk D v:=by
 constructor
 ·intro h
  unfold jE at h
  obtain ⟨i,hi,hv⟩:=List.mem_flatMap.1 h
  have hi:=List.mem_range.1 hi
  unfold nC at hv
  split at hv
  ·rename_i hc
   simp at hv
   rw [hv]
   exact KA hT (q8 hi) (mJ hi) hc
  ·cases hv
 ·intro h
  obtain ⟨i,hi,rfl⟩:=v7 h.mem
  unfold jE
  refine List.mem_flatMap.2 ⟨i,List.mem_range.2 hi,?_⟩
  unfold nC
  by_cases hc:aw (aE D (eP D.length i)) (aE D i) (aE D (bd D.length i))=0
  ·have n1:=aK _ (q8 hi)
   have n2:=aK _ (mJ hi)
   obtain ⟨t,t0,t1,ht⟩:=KB hT hF (q8 hi) (mJ hi) n1 n2 hc
   exact absurd ht (h.As (.ov (fj (j9 hi))) (.ov (fj (c6 hi))) n1 (Ne.symm n2) t0 t1)
  ·rw [if_pos hc]; exact List.mem_cons_self ..
/-- The reference's ring. -/
theorem VW {P:List Q2} (hT:bI P) (hF:¬ Flat P):fR P=eW (fI P)∧3≤(fI P).length:=by
 have hr:=KD hT hF
 have IB:bI (gB P):=hT.sublist (xz P)
 have CZ:¬ Flat (gB P):=fun h=>hF (h.mono fun v hv=>(JH hF).2 hv)
 have hs:iE (gB P) P:=.ov fun v=>JH hF
 have my:=KC IB CZ (J1 P)
 have eC:∀ v,v∈jE (gB P)↔gk P v:=fun v=>(R7 IB CZ (J1 P) v).trans (gk.iff hs v)
 have eR:∀ v,v∈fI P↔gk P v:=fun v=>hr.ext.trans (gk.iff (DS hT hF).1 v)
 have he:=QG (IB.sublist (Au _)) hr.fJ (my.sublist (Au _)) hr.nodup eC eR
 refine ⟨?_,hr.three⟩
 unfold fR
 have hl:=congrArg List.length he
 rw [At,At] at hl
 rw [if_neg (by have:=hr.three; omega),he]
theorem Tm {P:List Q2} (hF:Flat P):fR P=[]∧(fI P).length < 3:=by
 refine ⟨?_,by have:=R6 hF; omega⟩
 have CZ:Flat (gB P):=hF.mono fun v hv=>(xz P).subset hv
 have:jE (gB P)=[]:=by
  unfold jE
  rw [List.flatMap_eq_nil_iff]
  intro i hi
  have hi:=List.mem_range.1 hi
  unfold nC
  rw [if_neg (by simp only [ne_eq]; exact fun h=>h (Bj CZ (fj (j9 hi)) (fj hi) (fj (c6 hi))))]
 unfold fR
 rw [this,if_pos (by decide)]
/-! a box, cut by lines -/
abbrev Q4:=Q2 × Q2
def acB (b:Q4):List Q2:=[b.1,(b.2.1,b.1.2),b.2,(b.1.1,b.2.2)]
def okB (b:Q4):Prop:=b.1.1≤b.2.1∧b.1.2≤b.2.2
def OH (b:Q4) (p:Q2):Prop:=b.1.1≤p.1∧p.1≤b.2.1∧b.1.2≤p.2∧p.2≤b.2.2
def GO (b:Q4) (l:List Q3):List Q2:=l.foldl (fun P m=>fo m P) (acB b)
end Go.Ae
/- Convex polygons: each vertex is where two of the given lines meet. -/
namespace Go.Ae
open Go
/-- Both ends on one of the lines. -/
def mB (S:Q3→Prop) (e:Q2 × Q2):Prop:=∃ m,S m∧mA m∧bk m e.1=0∧bk m e.2=0
theorem YH {l m:Q3} {x:Q2} (hx:bk l x=0) (hy:bk m x=0) (h:pW l m≠0):x=Hs l m:=by
 unfold pW at h
 have e:pW l m=nv (qE l) (qE m):=rfl
 rw [show nv (qE l) (qE m)=l.1*m.2.1 - l.2.1*m.1 from rfl] at h e
 rw [kB] at hx hy
 unfold Hs
 rw [e]
 refine Prod.ext ?_ ?_
 ·show x.1=_
  rw [Rat.div_def]; grind
 ·show x.2=_
  rw [Rat.div_def]; grind
theorem YI {l m:Q3} {a b:Q2} (hl:mA l) (ha:bk l a=0) (hb:bk l b=0) (h:bk m a≠bk m b):pW l m≠0:=fun e=>by
 rw [show pW l m=l.1*m.2.1 - l.2.1*m.1 from rfl] at e
 rw [kB] at ha hb
 rw [kB,kB] at h
 by_cases h0:l.1=0
 ·have h1:l.2.1≠0:=fun e=>hl ⟨h0,e⟩
  have:l.2.1*(m.1*a.1+m.2.1*a.2 - m.2.2 - (m.1*b.1+m.2.1*b.2 - m.2.2))=0:=by grind
  have:=(Rat.mul_eq_zero.1 this).resolve_left h1
  exact h (by grind)
 ·have:l.1*(m.1*a.1+m.2.1*a.2 - m.2.2 - (m.1*b.1+m.2.1*b.2 - m.2.2))=0:=by grind
  have:=(Rat.mul_eq_zero.1 this).resolve_left h0
  exact h (by grind)
def mX (m:Q3) (e:Q2 × Q2):List Q2:=mS m e.1++gK m e.1 e.2
theorem MK (m:Q3) (l:List Q2):fo m l=(aX l).flatMap (mX m):=rfl
theorem E8 {m:Q3} {a:Q2} (h:0≤bk m a):mS m a=[a]:=by unfold mS; rw [if_pos (rl.2 h)]
theorem E9 {m:Q3} {a:Q2} (h:bk m a < 0):mS m a=[]:=by unfold mS; rw [if_neg (fun J=>by have:=rl.1 J; grind)]
theorem Fa {m:Q3} {a b:Q2} (h:¬ ((0 < bk m a∧bk m b < 0)∨(bk m a < 0∧0 < bk m b))):gK m a b=[]:=by unfold gK; rw [if_neg (fun J=>h (AP.1 J))]
theorem xB {S:Q2 × Q2→Prop} {a:Q2} {X:List Q2} (h:∀ x,X.head?=some x→S (a,x)) (hX:∀ e∈cG X,S e):∀ e∈cG (a::X),S e:=by
 cases X with
 | nil=>intro e he; cases he
 | cons x X =>
  intro e he
  rw [lU] at he
  rcases List.mem_cons.1 he with rfl | he
  ·exact h x rfl
  ·exact hX e he
/-- What is left after a cut: each edge lies on one of the lines. -/
theorem UJ {S:Q3→Prop} {m:Q3} (hS:S m) (hm:mA m) (z:Q2):∀ (L:List Q2) (a:Q2),(a::L).getLast?=some z→(∀ e∈cG (a::L),mB S e) →
  ∃ X,(cG (a::L)).flatMap (mX m)++mS m z=X∧(∀ e∈cG X,mB S e)∧(0≤bk m a→X.head?=some a)∧(bk m a < 0→∀ x,X.head?=some x→bk m x=0)∧(bk m z < 0→∀ x,X.getLast?=some x→bk m x=0):=by
 intro L
 induction L with
 | nil =>
  intro a hz C0
  simp at hz
  subst hz
  by_cases ha:0≤bk m a
  ·refine ⟨[a],by rw [E8 ha]; rfl,(fun e he=>by cases he),fun _=>rfl,fun h=>absurd ha (by grind),fun h=>absurd ha (by grind)⟩
  ·exact ⟨[],by rw [E9 (by grind)]; rfl,(fun e he=>by cases he),fun h=>absurd h ha,(fun h x hx=>by cases hx),(fun h x hx=>by cases hx)⟩
 | cons b L ih =>
  intro a hz C0
  rw [lU] at C0
  obtain ⟨X,hX,h1,J,h3,h4⟩:=ih b (by rw [List.getLast?_cons_cons] at hz; exact hz) fun e he=>C0 e (List.mem_cons_of_mem _ he)
  obtain ⟨k,hk,IC,ka,kb⟩:=C0 (a,b) (List.mem_cons_self ..)
  rw [lU,List.flatMap_cons,List.append_assoc,hX]
  show ∃ Y,(mS m a++gK m a b)++X=Y∧_
  have last:∀ Z:List Q2,X≠[]→∀ x,(Z++X).getLast?=some x→X.getLast?=some x:=fun Z aK x hx=>by
   rw [List.getLast?_append] at hx
   cases e:X.getLast? with
   | none=>exact absurd (List.getLast?_eq_none_iff.1 e) aK
   | some y=>rw [e] at hx; exact hx
  by_cases ha:0≤bk m a
  ·rw [E8 ha]
   by_cases hb:0≤bk m b
   ·rw [Fa (by grind),List.append_nil]
    have hh:=J hb
    refine ⟨a::X,rfl,xB (fun x hx=>?_) h1,fun _=>rfl,fun h=>absurd ha (by grind),fun h x hx=>h4 h x (last [a] (fun e=>by rw [e] at hh; cases hh) x hx)⟩
    rw [hh] at hx; cases hx
    exact ⟨k,hk,IC,ka,kb⟩
   ·by_cases h0:bk m a=0
    ·rw [Fa (by grind),List.append_nil]
     refine ⟨a::X,rfl,xB (fun x hx=>⟨m,hS,hm,h0,h3 (by grind) x hx⟩) h1,fun _=>rfl,fun h=>absurd ha (by grind),fun h x hx=>?_⟩
     by_cases zL:X=[]
     ·subst zL; simp at hx; rw [← hx]; exact h0
     ·exact h4 h x (last [a] zL x hx)
    ·have hc:=Et (m:=m) (p:=a) (q:=b) (.inl ⟨by grind,by grind⟩)
     have hs:=xA (x:=atR a b (ji m a b)) (by rw [hc]; simp)
     rw [hc]
     refine ⟨a::atR a b (ji m a b)::X,rfl,xB (fun x hx=>?_) (xB (fun x hx=>⟨m,hS,hm,hs.2.2.2.2,h3 (by grind) x hx⟩) h1),fun _=>rfl,fun h=>absurd ha (by grind),fun h x hx=>?_⟩
     ·simp at hx
      rw [← hx]
      exact ⟨k,hk,IC,ka,E7 ka kb⟩
     ·by_cases zL:X=[]
      ·subst zL; simp at hx; rw [← hx]; exact hs.2.2.2.2
      ·exact h4 h x (last [a,atR a b (ji m a b)] zL x hx)
  ·rw [E9 (by grind),List.nil_append]
   by_cases hb:0 < bk m b
   ·have hc:=Et (m:=m) (p:=a) (q:=b) (.inr ⟨by grind,by grind⟩)
    have hs:=xA (x:=atR a b (ji m a b)) (by rw [hc]; simp)
    have hh:=J (by grind)
    rw [hc]
    refine ⟨atR a b (ji m a b)::X,rfl,xB (fun x hx=>?_) h1,fun h=>absurd h ha,fun _ x hx=>?_,fun h x hx=>h4 h x (last [atR a b (ji m a b)] (fun e=>by rw [e] at hh; cases hh) x hx)⟩
    ·rw [hh] at hx; cases hx
     exact ⟨k,hk,IC,E7 ka kb,kb⟩
    ·simp at hx; rw [← hx]; exact hs.2.2.2.2
   ·rw [Fa (by grind),List.nil_append]
    refine ⟨X,rfl,h1,fun h=>absurd h ha,fun _ x hx=>?_,h4⟩
    by_cases iZ:bk m b=0
    ·have:=J (by grind)
     rw [this] at hx; cases hx; exact iZ
    ·exact h3 (by grind) x hx
theorem YJ {S:Q3→Prop} {m:Q3} {P:List Q2} (hS:S m) (hm:mA m) (h:∀ e∈aX P,mB S e):∀ e∈aX (fo m P),mB S e:=by
 cases P with
 | nil=>intro e he; cases he
 | cons p P =>
  obtain ⟨X,hX,h1,J,h3,h4⟩:=UJ hS hm p (P++[p]) p (by rw [← List.cons_append,List.getLast?_append]; rfl) h
  have hc:fo m (p::P)=(cG (p::(P++[p]))).flatMap (mX m):=rfl
  rw [← hc] at hX
  by_cases hp:0≤bk m p
  ·rw [E8 hp] at hX
   have hh:=J hp
   intro e he
   cases hC:fo m (p::P) with
   | nil=>rw [hC] at he; cases he
   | cons c C =>
    rw [hC] at hX he
    have:c=p:=by rw [← hX] at hh; simpa using hh
    rw [this] at hX he
    rw [vt,hX] at he
    exact h1 e he
  ·rw [E9 (by grind),List.append_nil] at hX
   intro e he
   cases hC:fo m (p::P) with
   | nil=>rw [hC] at he; cases he
   | cons c C =>
    rw [hC] at he hX
    subst hX
    rcases List.eq_nil_or_concat C with rfl | ⟨C,d,rfl⟩
    ·have nQ:=h3 (by grind) c rfl
     rw [vt] at he
     rcases List.mem_cons.1 he with rfl | he
     ·exact ⟨m,hS,hm,nQ,nQ⟩
     ·cases he
    ·have nQ:=h3 (by grind) c rfl
     have fF:=h4 (by grind) d (by rw [List.concat_eq_append,← List.cons_append,List.getLast?_append]; rfl)
     rw [List.concat_eq_append] at he h1
     rw [vt,show c::(C++[d])++[c]=(c::C)++d::[c] by simp,vr] at he
     rcases List.mem_append.1 he with he | he
     ·exact h1 e (by rw [← List.cons_append]; exact he)
     ·rcases List.mem_cons.1 he with rfl | he
      ·exact ⟨m,hS,hm,fF,nQ⟩
      ·cases he
theorem qb0 {k:Nat} (h:1≤k):QB 0 k:=(yn (n:=0) (by decide)).mono h
theorem qb1 {k:Nat} (h:1≤k):QB 1 k:=(yn (n:=1) (by decide)).mono h
end Go.Ae
/- Lines: contracts over lists of points and of lines. -/
namespace Go.Ae
open Go
/-- Points over rationals as the program keeps them. -/
def bJ (L:List Q2):List PV:=L.map cB
def cc (L:List Q2):Nat→List Value:=bS (bJ L)
theorem KE (L:List Q2):(bJ L).length=L.length:=List.length_map ..
theorem YK {L:List Q2} {k:Nat} (h:k < L.length):(bJ L)[k]?=some (cB (aE L k)):=by
 unfold bJ
 rw [List.getElem?_map,gI h]; rfl
theorem UK {L:List Q2} {k:Nat} (h:k < L.length):cc L k=(cB (aE L k)).cells:=by
 unfold cc bS
 rw [List.getD_eq_getElem?_getD,YK h]; rfl
/-- A point of a list, behind a variable. -/
theorem ib {L:List Q2} {m k:Nat} (h:k < L.length) (hs:∀ v∈L,Q2.sz m v):∃ u:PV,u=cB (aE L k)∧cc L k=u.cells∧u.p=aE L k∧u.sz m∧Q2.sz m u.p :=
 ⟨_,rfl,UK h,ig _,wm (hs _ (fj h)) (Nat.le_refl _),by rw [ig]; exact hs _ (fj h)⟩
theorem VX {a b:Q2} (h:cB a=cB b):a=b:=by rw [← ig a,← ig b,h]
theorem VY {u v:PV} {a b:Q2} (hu:u=cB a) (hv:v=cB b):u=v↔a=b:=by
 subst hu; subst hv
 exact ⟨VX,fun h=>by rw [h]⟩
theorem jO {k n:Nat} (hk:k < n) (hn:n≤1099511627776):Int.tmod (IntKind.i64.wrap ((k:Int)+1)) (n:Int)=(bd n k:Int):=by
 rw [au (by omega) (by omega)]
 show Int.tmod ((k+1:Nat):Int) (n:Int)=(((k+1) % n:Nat):Int)
 rfl
theorem B5 {k n:Nat} (hk:k < n) (hn:n≤1099511627776):Int.tmod (IntKind.i64.wrap (IntKind.i64.wrap ((k:Int)+(n:Int)) - 1)) (n:Int)=(eP n k:Int):=by
 rw [au (x:=(k:Int)+n) (by omega) (by omega),au (by omega) (by omega)]
 have:(k:Int)+n - 1=((k+n - 1:Nat):Int):=by omega
 rw [this]
 rfl
theorem DE {X Y:List Q2} {r s:Nat} (h:X[r]?=Y[s]?):cc X r=cc Y s:=by
 unfold cc bS bJ
 rw [List.getD_eq_getElem?_getD,List.getD_eq_getElem?_getD,List.getElem?_map,List.getElem?_map,h]
theorem UL {L:List Q2} {m a:Nat} {z:Nat→List Value} (ha:a=L.length - m) (hm:m≤L.length):∀ r,r < L.length →
  iB (fun j=>iB z 0 (fun j=>cc L (fe (0+m) j)) (fe 0 j)) (0+a) (fun j=>cc L (fe 0 j)) r=cc (L.drop m++L.take m) r:=fun r hr=>by
 by_cases h:r < a
 ·rw [jc (by omega),gu (Nat.zero_le _)]
  refine DE ?_
  rw [List.getElem?_append_left (by rw [List.length_drop]; omega),List.getElem?_drop]
  simp [aq]
 ·rw [gu (by omega)]
  refine DE ?_
  rw [List.getElem?_append_right (by rw [List.length_drop]; omega),List.length_drop,List.getElem?_take_of_lt (by omega)]
  simp [aq,ha]
theorem Tn {G:Nat→List Value} {L:List Q2} {m a:Nat} {z:Nat→List Value} (hG:∀ r,r < L.length→G r=cc L r) (ha:a=L.length - m) (hm:m≤L.length):∀ r,r < L.length →
  iB (fun j=>iB z 0 (fun j=>G (fe (0+m) j)) (fe 0 j)) (0+a) (fun j=>G (fe 0 j)) r=cc (L.drop m++L.take m) r:=fun r hr=>by
 rw [← UL (z:=z) ha hm r hr]
 by_cases h:r < a
 ·rw [jc (show r < 0+a by omega),jc (show r < 0+a by omega),gu (Nat.zero_le _),gu (Nat.zero_le _)]
  have e:fe (0+m) (fe 0 r - 0)=m+r:=by rw [aq,aq]; omega
  rw [e]
  exact hG _ (by omega)
 ·rw [gu (show 0+a≤r by omega),gu (show 0+a≤r by omega)]
  have e:fe 0 (r - (0+a))=r - a:=by rw [aq]; omega
  rw [e]
  exact hG _ (by omega)
/-! lists of lines -/
def XV.p (b:XV):Q4:=(b.1.p,b.2.p)
abbrev LL:=Option (List R3 × Nat)
def YL (l:List R3):Nat→List Value:=fun r=>(l.getD r yJ).cells
def LL.val:LL→Value
 | none=>.slice none 0 0
 | some i=>.slice (some ⟨0,0,none⟩) i.1.length i.2
def LL.ae:LL→List ai
 | none=>[]
 | some i=>[.flat false i.1.length 9 (YL i.1)]
def LL.list:LL→List R3
 | none=>[]
 | some i=>i.1
def qs (l:List R3):List Q3:=l.map R3.q
instance (b:Q4):Decidable (okB b):=inferInstanceAs (Decidable (_∧_))
def acC (l:List Q3):Bool:=l.any fun m=>decide (¬ mA m)
theorem q9 {O:List Q2} {q:Nat} {F f:Nat→List Value} {p:PV} {x:Q2} (hq:q=O.length) (hF:∀ r,r < q→F r=cc O r) (hp:p=cB x) (hf:f 0=p.cells):∀ r,r < q+1→iB F q f r=cc (O++[x]) r:=fun r hr=>by
 by_cases h:r < q
 ·rw [jc h,hF r h]
  exact DE (by rw [List.getElem?_append_left (by omega)])
 ·rw [gu (by omega),show r - q=0 by omega,hf,hp]
  have:r=O.length:=by omega
  subst this
  unfold cc bS bJ
  rw [List.getD_eq_getElem?_getD,List.getElem?_map]
  simp
theorem vP {f:Nat→List Value} {p:PV} {x:Q2} (hp:p=cB x) (hf:f 0=p.cells):∀ r,r < 1→f r=cc [x] r:=fun r hr=>by
 have:r=0:=by omega
 subst this
 rw [hf,hp]; rfl
theorem Li {α β:Type} {l:List α} {f:α→List β} {j:Nat} {e:α} (h:l[j]?=some e):(l.take (j+1)).flatMap f=(l.take j).flatMap f++f e:=by
 rw [List.take_add_one,h]
 simp
theorem UM (m:Q3) (e:Q2 × Q2):(mX m e).length≤2:=by
 unfold mX mS gK
 rw [List.length_append]
 split <;> split <;> simp
theorem Ez (m:Q3):∀ l:List (Q2 × Q2),(l.flatMap (mX m)).length≤2*l.length
 | []=>by simp
 | e::l=>by
  have:=Ez m l
  have:=UM m e
  rw [List.flatMap_cons,List.length_append,List.length_cons]
  omega
theorem UN (m:Q3) (l:List Q2):(fo m l).length≤2*l.length:=by
 rw [MK]
 have:=Ez m (aX l)
 rw [kS] at this
 exact this
end Go.Ae
/- Lines: what the laws call. -/
namespace Go.Ae
open Go
def kY {α:Type} (f:α→Bool) (l:List α) (i:Nat):Prop:=(l.take i).any f=false
theorem Ah {α:Type} (f:α→Bool) (l:List α):kY f l 0:=rfl
theorem oZ {α:Type} {f:α→Bool} {l:List α} {i:Nat} {x:α} (h:kY f l i) (hx:l[i]?=some x) (hf:f x=false):kY f l (i+1):=by
 unfold kY at *
 rw [List.take_add_one,hx,List.any_append,h]
 simp [hf]
theorem AB {α:Type} {f:α→Bool} {l:List α} (h:kY f l l.length):l.any f=false:=by
 unfold kY at h
 rw [List.take_length] at h
 exact h
/-! the example of the chapter -/
end Go.Ae
/- Lines: plain laws. -/
namespace Go.Ae
open Go
theorem R8 {p q:Q2}:fL q p=0↔fL p q=0:=by rw [og,og]; exact eq_comm
/-! feet -/
/-! bisectors -/
/-! where lines meet -/
end Go.Ae
/- Lines: a box cut by lines, as the laws ask for it. -/
namespace Go.Ae
open Go
/-! what Common answers -/
/-- A ring that Common answers. -/
structure ac0 (b:Q4) (l:List Q3):Prop where
 okb:okB b
 ada:acC l=false
 few:l.length≤60
 fJ:bI (GO b l)
 flat:¬ Flat (GO b l)
 ring:Ring (fI (GO b l))
theorem L4 {P:List Q2} (h:Ring P):bI (eW P)∧(eW P).Nodup∧3≤(eW P).length:=⟨Ex h.fJ,DT h.nodup,by rw [At]; exact h.three⟩
theorem v8 {l:List Q2} (h:l.Nodup) {i j:Nat} (hi:i < l.length) (hj:j < l.length) (e:aE l i=aE l j):i=j:=by
 have h1:=gI hi
 have J:=gI hj
 rw [e] at h1
 exact (List.getElem?_inj hi h).1 (h1.trans J.symm)
/-- Inside a ring, or on it. -/
def acD (L:List Q2) (p:Q2):Prop:=∀ k,k < L.length→0≤aw (aE L k) (aE L (bd L.length k)) p
/-! fewer -/
/-! parts -/
theorem Rc {P:List Q2} (h:Ring P) {u v w:Q2} (h1:(u,v)∈aX P) (J:(v,w)∈aX P):0 < aw u v w:=by
 obtain ⟨i,hi,e1⟩:=E6 h1
 obtain ⟨j,hj,e2⟩:=E6 J
 have a1:u=aE P i:=congrArg Prod.fst e1
 have a2:v=aE P (bd P.length i):=congrArg Prod.snd e1
 have b1:v=aE P j:=congrArg Prod.fst e2
 have b2:w=aE P (bd P.length j):=congrArg Prod.snd e2
 have e:=v8 h.nodup (c6 hi) hj (a2.symm.trans b1)
 subst e
 have:=h.wu _ hj
 rw [FM hi] at this
 rw [a1,a2,b2]; exact this
theorem To {P:List Q2} (h:Ring P):Ring (eW P):=by
 obtain ⟨h1,_,h3⟩:=L4 h
 have hm:∀ e,e∈aX (eW P)→e∈aX P:=fun e he=>by
  have:=AO he
  rwa [List.take_append_drop] at this
 exact ⟨h1,h3,fun k hk=>Rc h (hm _ (q8 hk)) (hm _ (mJ hk))⟩
theorem Rd {P:List Q2} (h:Ring P) {k:Nat} (hk:k < (eW P).length) (h0:0 < k):0 < fL (aE (eW P) k) (aE (eW P) 0):=by
 obtain ⟨_,hn,h3⟩:=L4 h
 obtain ⟨a,A,e,hle⟩:=Ey (l:=P) (fun e=>by have:=h.three; rw [e] at this; exact absurd this (by decide))
 have ea:aE (eW P) 0=a:=by rw [e]; rfl
 have h1:=tA.1 (hle _ (tf.1 (fj hk)))
 rw [← ea] at h1
 have J:fL (aE (eW P) k) (aE (eW P) 0)≠0:=fun e=>by
  have:=v8 hn hk (by omega) (og.1 e)
  omega
 omega
/-! contracts -/
instance (L:List Q2) (p:Q2):Decidable (acD L p):=inferInstanceAs (Decidable (∀ k,k < L.length→_))
end Go.Ae
/- Lines: what LineParts and LineCommon call besides. -/
namespace Go.Ae
open Go
theorem ML {o:Bool} (p:PV):aA (.flat false 1 6 (fun _=>p.cells)) (.aQ o 6 [p.cells]) :=
 ⟨(fun h=>by cases h),rfl,Nat.le_refl _,fun r hr=>by
  have:r=0:=by have:r < 1:=hr; omega
  subst this; rfl,fun r hr v hv=>dG (show mj p.cells=true from rfl) v hv⟩
/-! 'left' of the laws -/
def PB (m:Q3) (p:Q2):Prop:=mA m∧0≤bk m p
instance (m:Q3) (p:Q2):Decidable (PB m p):=inferInstanceAs (Decidable (_∧_))
def aa1 (b:Q4) (l:List Q3) (p:Q2):Prop:=OH b p∧∀ m∈l,PB m p
instance (b:Q4) (p:Q2):Decidable (OH b p):=inferInstanceAs (Decidable (_∧_∧_∧_))
instance (b:Q4) (l:List Q3) (p:Q2):Decidable (aa1 b l p):=inferInstanceAs (Decidable (_∧_))
theorem YM {k n:Nat} (hk:k < n) (hn:n≤1099511627776):Int.tmod (IntKind.i64.wrap ((k:Int)+2)) (n:Int)=(bd n (bd n k):Int):=by
 rw [au (by omega) (by omega)]
 show Int.tmod ((k+2:Nat):Int) (n:Int)=(((k+1) % n+1) % n:Nat)
 rw [Nat.mod_add_mod]
 rfl
/-! a list turned round -/
end Go.Ae
/- Lines: the reference's cutting and its rings, over points as they are given. -/
namespace Go.Ae
open Go
def ay (L:List PV):List Q2:=L.map PV.p
def ja (L:List PV) (k:Nat):PV:=L.getD k (dv,dv)
theorem Fb {L:List PV} {k:Nat} (h:k < L.length):L[k]?=some (ja L k):=by
 unfold ja; rw [List.getD_eq_getElem?_getD,List.getElem?_eq_getElem h]; rfl
theorem oj {L:List PV} {k:Nat} (h:k < L.length):ja L k∈L:=List.mem_of_getElem? (Fb h)
theorem qX {L:List PV} {k:Nat} (h:k < L.length):bS L k=(ja L k).cells:=by
 unfold bS
 rw [List.getD_eq_getElem?_getD,Fb h]; rfl
theorem jP {L:List PV} {k:Nat} (h:k < L.length):(ja L k).p=aE (ay L) k:=by
 refine (rA ?_).symm
 unfold ay
 rw [List.getElem?_map,Fb h]; rfl
theorem DF {α β:Type} {f:α→List β} {c:Nat} (h:∀ a,(f a).length≤c):∀ l:List α,(l.flatMap f).length≤c*l.length
 | []=>by simp
 | e::l=>by
  have:=DF h l
  have:=h e
  rw [List.flatMap_cons,List.length_append,List.length_cons,Nat.mul_add]
  omega
theorem UO {l:List Q2} {i:Nat} {a b c:Q2} {z:Int} (ha:a=aE l (eP l.length i)) (hb:b=aE l i) (hc:c=aE l (bd l.length i)) (hz:z=aY (aw a b c) 0):nC l i=if z≠0 then [b] else []:=by
 unfold nC
 rw [← ha,← hb,← hc,hz]
 by_cases h:aw a b c=0
 ·rw [if_neg (fun e=>e h),if_neg (fun e=>e (FJ h))]
 ·rw [if_pos h,if_pos (fun e=>h (xM.1 e))]
theorem b8 (L:List PV):(ay L).length=L.length:=List.length_map ..
theorem rn {L:List PV} {k:Nat} (h:∀ v∈L,v.sz k) (hk:1≤k):∀ v∈ay L,Q2.sz k v:=fun v hv=>by
 obtain ⟨p,hp,rfl⟩:=List.mem_map.1 hv
 exact PV.dp (h p hp) hk
theorem VZ (L:List Q2) (j:Nat):(((aX L).take j).flatMap mT).length≤L.length:=by
 refine Nat.le_trans (DF (c:=1) (fun e=>by unfold mT; split <;> simp) _) ?_
 rw [List.length_take,kS]; omega
theorem V0 (L:List Q2) (j:Nat):((List.range j).flatMap (nC L)).length≤j:=by
 refine Nat.le_trans (DF (c:=1) (fun e=>by unfold nC; split <;> simp) _) ?_
 rw [List.length_range]; omega
/-! the reference's part of a box -/
/-! a list of lines, repeated -/
end Go.Ae
/- Convex rings: what the program checks, and what the reference checks. -/
namespace Go.Ae
open Go
theorem YN (o i j k m:Q2):aw o j k*aw i j m=aw o j m*aw i j k+aw o i j*aw j k m:=by simp only [fH]; grind
theorem YO (o i j k m:Q2):aw o j k*aw i k m=aw o k m*aw i j k+aw o i k*aw j k m:=by simp only [fH]; grind
theorem DU {a x s:Rat} (ha:0 < a) (h:a*x=s) (hs:0 < s):0 < x:=by
 by_cases hx:0 < x
 ·exact hx
 ·have:=Rat.mul_nonneg (show 0≤a by grind) (show 0≤-x by grind)
  grind
theorem MM {a b c d:Rat} (ha:0 < a) (hb:0 < b) (hc:0 < c) (hd:0 < d):0 < a*b+c*d:=by
 have:=Rat.mul_pos ha hb
 have:=Rat.mul_pos hc hd
 grind
/-- Lexicographically less. -/
def iL (a b:Q2):Prop:=a.1 < b.1∨a.1=b.1∧a.2 < b.2
theorem Tp {o a b c:Q2} (ha:iL o a) (hb:iL o b) (hc:iL o c) (h1:0 < aw o a b) (J:0 < aw o b c):0 < aw o a c:=by
 have e:(b.1 - o.1)*aw o a c=(a.1 - o.1)*aw o b c+(c.1 - o.1)*aw o a b:=by simp only [fH]; grind
 have C1:0 < b.1 - o.1:=by
  rcases hb with h | ⟨h,h'⟩
  ·grind
  ·exfalso
   have e2:aw o b c=-((b.2 - o.2)*(c.1 - o.1)):=by rw [fH,show b.1 - o.1=0 by grind]; grind
   have:=Rat.mul_nonneg (show 0≤b.2 - o.2 by grind) (show 0≤c.1 - o.1 by rcases hc with h | ⟨h,_⟩ <;> grind)
   grind
 have uN:0 < a.1 - o.1:=by
  rcases ha with h | ⟨h,h'⟩
  ·grind
  ·exfalso
   have e2:aw o a b=-((a.2 - o.2)*(b.1 - o.1)):=by rw [fH,show a.1 - o.1=0 by grind]; grind
   have:=Rat.mul_pos (show 0 < a.2 - o.2 by grind) C1
   grind
 refine DU C1 e ?_
 have:=Rat.mul_pos uN J
 have:=Rat.mul_nonneg (show 0≤c.1 - o.1 by rcases hc with h | ⟨h,_⟩ <;> grind) (show 0≤aw o a b by grind)
 grind
theorem UP {o:Q2}:∀ l:List Q2,(∀ v∈l,iL o v)→(∀ e∈cG l,0 < aw o e.1 e.2)→l.Pairwise (fun a b=>0 < aw o a b):=by
 intro l
 induction l with
 | nil=>exact fun _ _=>.nil
 | cons a l ih =>
  intro hv he
  cases l with
  | nil=>simp
  | cons b l =>
   rw [lU] at he
   have J:=ih (fun v h=>hv v (List.mem_cons_of_mem _ h)) (fun e h=>he e (List.mem_cons_of_mem _ h))
   rw [List.pairwise_cons]
   refine ⟨fun c hc=>?_,J⟩
   have eH:=he (a,b) (List.mem_cons_self ..)
   rcases List.mem_cons.1 hc with rfl | cK
   ·exact eH
   ·rw [List.pairwise_cons] at J
    exact Tp (hv a (List.mem_cons_self ..)) (hv b (List.mem_cons_of_mem _ (List.mem_cons_self ..))) (hv c (List.mem_cons_of_mem _ hc)) eH (J.1 c cK)
/-- Any three turn left. -/
def yK:List Q2→Prop
 | []=>True
 | a::l=>l.Pairwise (fun b c=>0 < aw a b c)∧yK l
theorem yK.fJ:∀ {l:List Q2},yK l→bI l
 | [],_=>trivial
 | a::l,h=>⟨h.1.imp (fun h=>by grind),yK.fJ h.2⟩
theorem UQ {o:Q2}:∀ l:List Q2,l.Pairwise (fun a b=>0 < aw o a b)→(∀ e∈cG (cG l),0 < aw e.1.1 e.1.2 e.2.2)→yK l:=by
 intro l
 induction l with
 | nil=>exact fun _ _=>trivial
 | cons a l ih =>
  intro hf hc
  rw [List.pairwise_cons] at hf
  obtain ⟨PC,hf⟩:=hf
  cases l with
  | nil=>exact ⟨.nil,trivial⟩
  | cons b l =>
   have hS:=ih hf (fun e he=>hc e (by
    cases l with
    | nil=>cases he
    | cons c l=>rw [lU,lU,lU]; exact List.mem_cons_of_mem _ he))
   rw [List.pairwise_cons] at hf
   have ID:l.Pairwise (fun x y=>0 < aw b x y):=hS.1
   have h1:∀ z∈l,0 < aw a b z:=by
    cases l with
    | nil=>intro z hz; cases hz
    | cons c l =>
     have OI:0 < aw a b c:=hc ((a,b),(b,c)) (by rw [lU,lU,lU]; exact List.mem_cons_self ..)
     intro z hz
     rcases List.mem_cons.1 hz with rfl | nR
     ·exact OI
     ·rw [List.pairwise_cons] at ID
      exact DU (hf.1 c (List.mem_cons_self ..)) (YN o a b c z) (MM (hf.1 z hz) OI (PC b (List.mem_cons_self ..)) (ID.1 z nR))
   refine ⟨?_,hS⟩
   rw [List.pairwise_cons]
   refine ⟨h1,?_⟩
   have h3:=List.Pairwise.and_mem.1 (ID.and hf.2)
   refine h3.imp fun {x y} ⟨hx,hy,acE,acF⟩=>?_
   exact DU (hf.1 x hx) (YO o a b x y) (MM acF (h1 x hx) (PC x (List.mem_cons_of_mem _ hx)) acE)
theorem KF {α:Type} {l:List α} {e:α × α} (h:e∈cG l):∃ i,l[i]?=some e.1∧l[i+1]?=some e.2:=by
 obtain ⟨i,hi,rfl⟩:=List.getElem_of_mem h
 refine ⟨i,?_⟩
 have:(cG l)[i]?=some (cG l)[i]:=List.getElem?_eq_getElem hi
 unfold cG at this
 rw [List.getElem?_zip_eq_some,List.getElem?_tail] at this
 exact this
theorem x6 {a b:Q2}:fL a b < 0↔iL a b:=by
 have h:=tA (a:=b) (b:=a)
 unfold iw at h
 unfold iL
 constructor
 ·intro hc
  have hn:¬ (b.1 < a.1∨b.1=a.1∧b.2≤a.2):=fun e=>h.1 e hc
  grind
 ·intro hc
  refine Decidable.byContradiction fun hn=>?_
  have:=h.2 hn
  grind
/-- The first vertex is the least. -/
def ll (Q:List Q2):Prop:=∀ i,0 < i→i < Q.length→iL (aE Q 0) (aE Q i)
def ow (Q:List Q2) (i:Nat):Prop:=aw (aE Q i) (aE Q (bd Q.length i)) (aE Q (bd Q.length (bd Q.length i)))≤0∨(0 < i∧i+1 < Q.length∧aw (aE Q 0) (aE Q i) (aE Q (i+1))≤0)
def yo (Q:List Q2) (i:Nat):Prop:=∃ p∈Q,p≠aE Q i∧p≠aE Q (bd Q.length i)∧aw (aE Q i) (aE Q (bd Q.length i)) p≤0
theorem wx {Q:List Q2} (h:ll Q) {i:Nat} (h0:0 < i) (hi:i < Q.length):aE Q 0≠aE Q i:=fun e=>by
 have:=h i h0 hi
 rw [← e] at this
 rcases this with h | ⟨_,h⟩ <;> exact absurd h (Rat.not_lt.2 (Rat.le_refl))
theorem xW {Q:List Q2} (h3:3≤Q.length) (ho:ll Q):Ring Q↔∀ i,i < Q.length→¬ ow Q i:=by
 constructor
 ·intro hR i hi hb
  rcases hb with hb | ⟨h0,h1,hb⟩
  ·have hn:=c6 hi
   have:=hR.wu _ hn
   rw [FM hi] at this
   grind
  ·have my:=hR.nodup
   have hT:=hR.fJ
   have e0:(Q.length - 1+1)=Q.length:=by omega
   have eG:0≤aw (aE Q i) (aE Q (i+1)) (aE Q 0):=by
    have he:=mJ hi
    rw [show bd Q.length i=i+1 from Nat.mod_eq_of_lt h1] at he
    exact o6 hT he (fj (by omega))
   have aK:aw (aE Q 0) (aE Q i) (aE Q (i+1))≠0:=Aa (hR.ext.1 (fj (by omega))) (hR.ext.1 (fj hi)) (hR.ext.1 (fj h1)) (wx ho h0 hi) (wx ho (by omega) h1) fun e=>by
    have:=v8 my hi h1 e
    omega
   rw [v5] at hb aK
   grind
 ·intro h
  have OJ:∀ k,k < Q.length→0 < aw (aE Q (eP Q.length k)) (aE Q k) (aE Q (bd Q.length k)):=fun k hk=>by
   have:=h _ (j9 hk)
   unfold ow at this
   rw [FL hk] at this
   exact Rat.not_le.1 fun e=>this (.inl e)
  refine ⟨?_,h3,OJ⟩
  cases Q with
  | nil=>exact trivial
  | cons o l =>
   have hv:∀ v∈l,iL o v:=fun v hv=>by
    obtain ⟨i,hi,rfl⟩:=v7 hv
    exact ho (i+1) (by omega) (by simp; omega)
   have hp:=UP l hv fun e he=>by
    obtain ⟨i,h1,J⟩:=KF he
    have hi:i+1 < l.length:=(List.getElem?_eq_some_iff.1 J).1
    have:=h (i+1) (by simp; omega)
    unfold ow at this
    have e1:aE (o::l) (i+1)=e.1:=rA h1
    have e2:aE (o::l) (i+1+1)=e.2:=rA J
    have e0:aE (o::l) 0=o:=rfl
    rw [e1,e2,e0] at this
    exact Rat.not_le.1 fun e=>this (.inr ⟨by omega,by simp; omega,e⟩)
   refine ⟨hp.imp (fun h=>by grind),(UQ l hp fun e he=>?_).fJ⟩
   obtain ⟨i,h1,J⟩:=KF he
   have g1:l[i]?=some e.1.1∧l[i+1]?=some e.1.2:=by
    unfold cG at h1
    rw [List.getElem?_zip_eq_some,List.getElem?_tail] at h1
    exact h1
   have g2:l[i+1]?=some e.2.1∧l[i+1+1]?=some e.2.2:=by
    unfold cG at J
    rw [List.getElem?_zip_eq_some,List.getElem?_tail] at J
    exact J
   have hi:i+1+1 < l.length:=(List.getElem?_eq_some_iff.1 g2.2).1
   have:=OJ (i+1+1) (by simp; omega)
   have hn:bd (o::l).length (i+1+1)=i+1+1+1:=Nat.mod_eq_of_lt (by simp; omega)
   have hq:eP (o::l).length (i+1+1)=i+1:=by
    have:=FM (n:=(o::l).length) (k:=i+1) (by simp; omega)
    rwa [show bd (o::l).length (i+1)=i+1+1 from Nat.mod_eq_of_lt (by simp; omega)] at this
   rw [hn,hq] at this
   have e1:aE (o::l) (i+1)=e.1.1:=rA g1.1
   have e2:aE (o::l) (i+1+1)=e.1.2:=rA g1.2
   have e3:aE (o::l) (i+1+1+1)=e.2.2:=rA g2.2
   rw [e1,e2,e3] at this
   exact this
/-- Where the points strictly on the left of each edge are all others, no point occurs twice. -/
theorem Tq {Q:List Q2} (h3:3≤Q.length) (ho:ll Q) (h:∀ i,i < Q.length→¬ yo Q i):∀ i j,i < j→j < Q.length→aE Q i≠aE Q j:=by
 have ao:∀ i,i < Q.length→∀ p∈Q,p≠aE Q i→p≠aE Q (bd Q.length i)→0 < aw (aE Q i) (aE Q (bd Q.length i)) p:=fun i hi p hp h1 J =>
  Rat.not_le.1 fun e=>h i hi ⟨p,hp,h1,J,e⟩
 have aK:∀ i,i < Q.length→aE Q i≠aE Q (bd Q.length i):=fun i hi e=>by
  by_cases h0:i=0
  ·subst h0
   exact wx ho (i:=bd Q.length 0) (by unfold bd; rw [Nat.mod_eq_of_lt (by omega)]; omega) (c6 hi) e
  ·have bO:aE Q 0≠aE Q i:=wx ho (by omega) hi
   have:=ao i hi (aE Q 0) (fj (by omega)) bO (fun e2=>bO (e2.trans e.symm))
   rw [← e,Bi] at this
   grind
 have key:∀ d i j,Q.length - j=d→0 < i→i < j→j < Q.length→aE Q i≠aE Q j:=by
  intro d
  induction d with
  | zero=>intro i j hd _ _ hj; omega
  | succ d ih =>
   intro i j hd h0 xk hj e
   have hi:i < Q.length:=by omega
   have eni:bd Q.length i=i+1:=Nat.mod_eq_of_lt (by omega)
   have gf:aE Q (bd Q.length i)=aE Q (bd Q.length j):=by
    refine Decidable.byContradiction fun hc=>?_
    have a:=ao i hi (aE Q (bd Q.length j)) (fj (c6 hj)) (by rw [e]; exact Ne.symm (aK j hj)) (Ne.symm hc)
    have b:=ao j hj (aE Q (bd Q.length i)) (fj (c6 hi)) (by rw [← e]; exact Ne.symm (aK i hi)) hc
    rw [← e,xV] at b
    grind
   rw [eni] at gf
   by_cases hl:j+1 < Q.length
   ·rw [show bd Q.length j=j+1 from Nat.mod_eq_of_lt hl] at gf
    exact ih (i+1) (j+1) (by omega) (by omega) (by omega) hl gf
   ·have:j+1=Q.length:=by omega
    rw [show bd Q.length j=0 from by unfold bd; rw [this,Nat.mod_self]] at gf
    exact wx ho (i:=i+1) (by omega) (by omega) gf.symm
 intro i j xk hj
 by_cases h0:i=0
 ·subst h0; exact wx ho xk hj
 ·exact key _ i j rfl (by omega) xk hj
theorem L5 {Q:List Q2} (h3:3≤Q.length) (ho:ll Q):Ring Q↔∀ i,i < Q.length→¬ yo Q i:=by
 constructor
 ·rintro hR i hi ⟨p,hp,h1,J,hb⟩
  have eG:=o6 hR.fJ (mJ hi) hp
  have:=Aa (hR.ext.1 (fj hi)) (hR.ext.1 (fj (c6 hi))) (hR.ext.1 hp) (hR.ne _ (mJ hi)) (Ne.symm h1) (Ne.symm J)
  grind
 ·intro h
  have my:=Tq h3 ho h
  have hd:∀ i j,i < Q.length→j < Q.length→i≠j→aE Q i≠aE Q j:=fun i j hi hj aK=>by
   rcases Nat.lt_or_gt_of_ne aK with h | h
   ·exact my i j h hj
   ·exact Ne.symm (my j i h hi)
  have ao:∀ i j,i < Q.length→j < Q.length→j≠i→j≠bd Q.length i→0 < aw (aE Q i) (aE Q (bd Q.length i)) (aE Q j):=fun i j hi hj h1 J =>
   Rat.not_le.1 fun e=>h i hi ⟨aE Q j,fj hj,hd j i hj hi h1,hd j _ hj (c6 hi) J,e⟩
  refine (xW h3 ho).2 fun i hi hb=>?_
  rcases hb with hb | ⟨h0,h1,hb⟩
  ·have hn:=c6 hi
   have:=ao i _ hi (c6 hn) (fun e=>by
    unfold bd at e
    rcases Nat.lt_or_ge (i+1) Q.length with h | h
    ·rw [Nat.mod_eq_of_lt h] at e
     rcases Nat.lt_or_ge (i+1+1) Q.length with h' | h'
     ·rw [Nat.mod_eq_of_lt h'] at e; omega
     ·rw [show i+1+1=Q.length by omega,Nat.mod_self] at e; omega
    ·rw [show i+1=Q.length by omega,Nat.mod_self,Nat.mod_eq_of_lt (by omega)] at e; omega) (wq hn (by omega))
   grind
  ·have:=ao i 0 hi (by omega) (by omega) (by rw [show bd Q.length i=i+1 from Nat.mod_eq_of_lt h1]; omega)
   rw [show bd Q.length i=i+1 from Nat.mod_eq_of_lt h1,← v5] at this
   grind
end Go.Ae
