import Derived.Laws.Strings
import Derived.Test.YtppeponndkfbkaaGreatSC
set_option linter.unusedVariables false
set_option linter.unusedSimpArgs false
/- Numbers: digits to the base 2^32 and 256, and the model's wrapping. Plain Lean, no program in sight. -/
namespace Go.Ae
open Go
/-! ### Wrapping -/
theorem wrapi64' (x:Int):IntKind.i64.wrap x=if x % 18446744073709551616 ≥ 9223372036854775808 then x % 18446744073709551616 - 18446744073709551616 else x % 18446744073709551616:=by
 have:IntKind.i64.wrap x=if (true && decide (x % (2 ^ 64:Int) ≥ (2 ^ 63:Int)))=true then x % (2 ^ 64:Int) - (2 ^ 64:Int) else x % (2 ^ 64:Int):=rfl
 rw [this]
 simp
theorem wrapi64 {x:Int} (h:-9223372036854775808≤x) (h2:x < 9223372036854775808):IntKind.i64.wrap x=x:=by
 rw [wrapi64']
 split <;> omega
theorem wrapu64' (x:Int):IntKind.u64.wrap x=x % 18446744073709551616:=by
 unfold IntKind.wrap
 simp [IntKind.bits,IntKind.signed]
theorem wrapu64 {x:Int} (h:0≤x) (h2:x < 18446744073709551616):IntKind.u64.wrap x=x:=by rw [wrapu64']; omega
theorem wrapu32' (x:Int):IntKind.u32.wrap x=x % 4294967296:=by
 unfold IntKind.wrap
 simp [IntKind.bits,IntKind.signed]
theorem wrapu32 {x:Int} (h:0≤x) (h2:x < 4294967296):IntKind.u32.wrap x=x:=by rw [wrapu32']; omega
theorem wrapu8' (x:Int):IntKind.u8.wrap x=x % 256:=by
 unfold IntKind.wrap
 simp [IntKind.bits,IntKind.signed]
theorem wrapu8 {x:Int} (h:0≤x) (h2:x < 256):IntKind.u8.wrap x=x:=by rw [wrapu8']; omega
/-! ### Digits to the base 2^32 -/
abbrev B:Nat:=4294967296
theorem Bpos (n:Nat):0 < B ^ n:=Nat.pow_pos (by decide)
def limb (N i:Nat):Nat:=N / B ^ i % B
theorem limb_lt (N i:Nat):limb N i < B:=Nat.mod_lt _ (by decide)
def setLimb (Y j d:Nat):Nat:=Y % B ^ j+B ^ j*(d+B*(Y / B ^ (j+1)))
theorem div_split (Y j:Nat):Y=Y % B ^ j+B ^ j*(limb Y j+B*(Y / B ^ (j+1))):=by
 have h1:=Nat.mod_add_div Y (B ^ j)
 have h2:=Nat.mod_add_div (Y / B ^ j) B
 rw [Nat.div_div_eq_div_mul,← Nat.pow_succ] at h2
 unfold limb
 rw [h2,h1]
theorem setLimb_num (Y j d:Nat):setLimb Y j d+limb Y j*B ^ j=Y+d*B ^ j:=by
 have h:=div_split Y j
 unfold setLimb
 rw [Nat.mul_add] at h ⊢
 have e1:B ^ j*limb Y j=limb Y j*B ^ j:=Nat.mul_comm _ _
 have e2:B ^ j*d=d*B ^ j:=Nat.mul_comm _ _
 omega
theorem add_mul_div {a k Q:Nat} (h:a < k):(a+k*Q) / k=Q:=by
 have hk:0 < k:=by omega
 rw [Nat.add_mul_div_left _ _ hk,Nat.div_eq_of_lt h,Nat.zero_add]
theorem limb_set {Y j d:Nat} (hd:d < B) (r:Nat):limb (setLimb Y j d) r=if r=j then d else limb Y r:=by
 have ha:Y % B ^ j < B ^ j:=Nat.mod_lt _ (Bpos j)
 rcases Nat.lt_trichotomy r j with h | h | h
 ·rw [if_neg (by omega)]
  have key:∀ K,limb (Y % B ^ j+B ^ j*K) r=limb (Y % B ^ j) r:=by
   intro K
   unfold limb
   have e:B ^ j*K=B ^ r*(B*(B ^ (j - r - 1)*K)):=by
    rw [← Nat.mul_assoc,← Nat.mul_assoc,← Nat.pow_succ,← Nat.pow_add,show r+1+(j - r - 1)=j by omega]
   rw [e,Nat.add_mul_div_left _ _ (Bpos r),Nat.add_mul_mod_self_left]
  have h1:=key (d+B*(Y / B ^ (j+1)))
  have h2:=key (limb Y j+B*(Y / B ^ (j+1)))
  rw [← div_split Y j] at h2
  unfold setLimb
  rw [h1,h2]
 ·subst h
  rw [if_pos rfl]
  unfold setLimb limb
  rw [add_mul_div ha,Nat.add_mul_mod_self_left,Nat.mod_eq_of_lt hd]
 ·rw [if_neg (by omega)]
  have key:∀ d',d' < B→limb (Y % B ^ j+B ^ j*(d'+B*(Y / B ^ (j+1)))) r=Y / B ^ (j+1) / B ^ (r - j - 1) % B:=by
   intro d' hd'
   unfold limb
   have e:B ^ r=B ^ j*(B*B ^ (r - j - 1)):=by
    rw [← Nat.mul_assoc,← Nat.pow_succ,← Nat.pow_add,show j+1+(r - j - 1)=r by omega]
   rw [e,← Nat.div_div_eq_div_mul,add_mul_div ha,← Nat.div_div_eq_div_mul,add_mul_div hd']
  have h1:=key d hd
  have h2:=key (limb Y j) (limb_lt Y j)
  rw [← div_split Y j] at h2
  unfold setLimb
  rw [h1,h2]
def limbRow (N:Nat):Nat→List Value:=fun r=>[.int .u32 (limb N r)]
theorem limbRow_set {Y j d:Nat} (hd:d < B):(fun r=>if r=j then [Value.int .u32 d] else limbRow Y r)=limbRow (setLimb Y j d):=by
 funext r
 unfold limbRow
 rw [limb_set hd]
 split <;> rfl
theorem limb_zero (r:Nat):limb 0 r=0:=by simp [limb]
theorem limbRow_zero:(fun _=>[Value.int .u32 0])=limbRow 0:=by
 funext r
 simp [limbRow,limb_zero]
theorem limb_top {N n:Nat} (h:N < B ^ n) {r:Nat} (hr:n≤r):limb N r=0:=by
 unfold limb
 have:B ^ n≤B ^ r:=Nat.pow_le_pow_right (by decide) hr
 rw [Nat.div_eq_of_lt (by omega)]; rfl
theorem mod_succ (N i:Nat):N % B ^ (i+1)=N % B ^ i+limb N i*B ^ i:=by
 unfold limb
 rw [Nat.pow_succ,Nat.mod_mul]
 rw [Nat.mul_comm (B ^ i)]
theorem div_succ (N i:Nat):N / B ^ i=limb N i+B*(N / B ^ (i+1)):=by
 have h2:=Nat.mod_add_div (N / B ^ i) B
 rw [Nat.div_div_eq_div_mul,← Nat.pow_succ] at h2
 exact h2.symm
/-- How many digits. -/
def nl (N:Nat):Nat:=if h:N=0 then 0 else nl (N / B)+1
decreasing_by exact Nat.div_lt_self (by omega) (by decide)
theorem nl_zero:nl 0=0:=by rw [nl]; rfl
theorem nl_succ {N:Nat} (h:N≠0):nl N=nl (N / B)+1:=by rw [nl]; simp [h]
theorem lt_nl (N:Nat):N < B ^ nl N:=by
 induction N using Nat.strongRecOn with
 | _ N ih =>
  by_cases h:N=0
  ·subst h; rw [nl_zero]; decide
  ·have:=ih (N / B) (Nat.div_lt_self (by omega) (by decide))
   rw [nl_succ h,Nat.pow_succ]
   exact (Nat.div_lt_iff_lt_mul (by decide)).1 this
theorem nl_le {N n:Nat} (h:N < B ^ n):nl N≤n:=by
 induction n generalizing N with
 | zero =>
  have:N=0:=by simpa using h
  subst this; rw [nl_zero]; exact Nat.le_refl _
 | succ n ih =>
  by_cases h0:N=0
  ·subst h0; rw [nl_zero]; omega
  ·have:N / B < B ^ n:=(Nat.div_lt_iff_lt_mul (by decide)).2 (by rw [← Nat.pow_succ]; exact h)
   rw [nl_succ h0]
   have:=ih this
   omega
theorem nl_pos {N:Nat} (h:N≠0):0 < nl N:=by rw [nl_succ h]; omega
theorem nl_eq_zero {N:Nat} (h:nl N=0):N=0:=by
 by_cases h0:N=0
 ·exact h0
 ·have:=nl_pos h0; omega
theorem pow_le_of_nl {N:Nat} (h:N≠0):B ^ (nl N - 1)≤N:=by
 rcases Nat.lt_or_ge N (B ^ (nl N - 1)) with h1 | h1
 ·have:=nl_le h1
  have:=nl_pos h
  omega
 ·exact h1
theorem nl_eq {N n:Nat} (h:N < B ^ n) (h2:n=0∨limb N (n - 1)≠0):nl N=n:=by
 rcases h2 with rfl | h2
 ·have:=nl_le h; omega
 ·have h3:=nl_le h
  rcases Nat.lt_or_ge (nl N) n with h4 | h4
  ·exact absurd (limb_top (lt_nl N) (show nl N≤n - 1 by omega)) h2
  ·omega
theorem nl_mono {M N:Nat} (h:M≤N):nl M≤nl N:=nl_le (Nat.lt_of_le_of_lt h (lt_nl N))
theorem lt_of_nl_lt {M N:Nat} (h:nl M < nl N):M < N:=by
 rcases Nat.lt_or_ge M N with h1 | h1
 ·exact h1
 ·have:=nl_mono h1; omega
theorem top_limb {N:Nat} (h:N≠0):limb N (nl N - 1)≠0:=by
 intro h0
 have h1:=lt_nl N
 have h2:=nl_pos h
 have e:nl N=nl N - 1+1:=by omega
 have h3:=mod_succ N (nl N - 1)
 rw [← e,h0,Nat.mod_eq_of_lt h1] at h3
 have h4:=Nat.mod_lt N (Bpos (nl N - 1))
 have:=nl_le (show N < B ^ (nl N - 1) by omega)
 omega
end Go.Ae
/- Numbers: strings of bytes as numbers to the base 256. Plain Lean, no program in sight. -/
namespace Go.Ae
open Go
abbrev C:Nat:=256
theorem Cpos (n:Nat):0 < C ^ n:=Nat.pow_pos (by decide)
/-- The number that a list of digits spells. -/
def lnat (l:List UInt8):Nat:=l.foldl (fun a b=>a*C+b.toNat) 0
theorem lnat_from (l:List UInt8):∀ a,l.foldl (fun a b=>a*C+b.toNat) a=a*C ^ l.length+lnat l:=by
 induction l with
 | nil=>intro a; simp [lnat]
 | cons b l ih =>
  intro a
  simp only [List.foldl_cons,lnat]
  rw [ih,ih (0*C+b.toNat)]
  rw [List.length_cons,Nat.pow_succ,Nat.add_mul,Nat.zero_mul,Nat.zero_add,Nat.mul_assoc,Nat.mul_comm C,Nat.add_assoc]
theorem lnat_cons (b:UInt8) (l:List UInt8):lnat (b::l)=b.toNat*C ^ l.length+lnat l:=by
 have:=lnat_from l (0*C+b.toNat)
 rw [Nat.zero_mul,Nat.zero_add] at this
 simpa [lnat] using this
theorem lnat_append (l m:List UInt8):lnat (l++m)=lnat l*C ^ m.length+lnat m:=by
 unfold lnat
 rw [List.foldl_append,lnat_from]
 rfl
theorem u8_lt (b:UInt8):b.toNat < C:=b.toNat_lt
theorem lnat_lt (l:List UInt8):lnat l < C ^ l.length:=by
 induction l with
 | nil=>decide
 | cons b l ih =>
  rw [lnat_cons,List.length_cons,Nat.pow_succ]
  have:=u8_lt b
  have h2:(b.toNat+1)*C ^ l.length≤C*C ^ l.length:=Nat.mul_le_mul_right _ this
  rw [Nat.add_mul] at h2
  rw [Nat.mul_comm (C ^ l.length)]
  omega
theorem lnat_get {l:List UInt8} {i:Nat} (h:i < l.length):l[i].toNat=lnat l / C ^ (l.length - 1 - i) % C:=by
 induction l generalizing i with
 | nil=>simp at h
 | cons b l ih =>
  cases i with
  | zero =>
   simp only [List.getElem_cons_zero,List.length_cons,Nat.add_sub_cancel,Nat.sub_zero]
   rw [lnat_cons,Nat.mul_comm,Nat.mul_add_div (Cpos _),Nat.div_eq_of_lt (lnat_lt l),Nat.add_zero,Nat.mod_eq_of_lt (u8_lt b)]
  | succ i =>
   have hi:i < l.length:=by simpa using h
   simp only [List.getElem_cons_succ,List.length_cons,Nat.add_sub_cancel]
   rw [ih hi,lnat_cons]
   have e:C ^ l.length=C ^ (l.length - (i+1))*(C*C ^ i):=by
    rw [← Nat.mul_assoc,← Nat.pow_succ,← Nat.pow_add,show l.length - (i+1)+1+i=l.length by omega]
   rw [show l.length - 1 - i=l.length - (i+1) by omega,e]
   rw [show b.toNat*(C ^ (l.length - (i+1))*(C*C ^ i))=C ^ (l.length - (i+1))*(C*(C ^ i*b.toNat)) by
    rw [Nat.mul_comm,Nat.mul_assoc,Nat.mul_assoc]]
   rw [Nat.mul_add_div (Cpos _),Nat.mul_add_mod]
def bnat (s:ByteArray):Nat:=lnat s.data.toList
theorem size_eq (s:ByteArray):s.data.toList.length=s.size:=rfl
theorem bnat_lt (s:ByteArray):bnat s < C ^ s.size:=lnat_lt _
theorem byteAt_eq {s:ByteArray} {i:Nat} (h:i < s.size):byteAt s i=bnat s / C ^ (s.size - 1 - i) % C:=by
 have h':i < s.data.toList.length:=h
 have:=lnat_get h'
 unfold byteAt bnat
 rw [List.getD_eq_getElem?_getD,List.getElem?_eq_getElem h',Option.getD_some,this]
 rfl
theorem byteAt_lt (s:ByteArray) (i:Nat):byteAt s i < C:=u8_lt _
theorem ba_ext {s t:ByteArray} (h:s.data.toList=t.data.toList):s=t:=by
 cases s; cases t; congr; exact Array.ext' h
theorem lnat_inj {l m:List UInt8} (h:l.length=m.length) (h2:lnat l=lnat m):l=m:=by
 induction l generalizing m with
 | nil=>cases m with
  | nil=>rfl
  | cons=>simp at h
 | cons a l ih=>cases m with
  | nil=>simp at h
  | cons b m =>
   simp only [List.length_cons,Nat.add_right_cancel_iff] at h
   rw [lnat_cons,lnat_cons,h] at h2
   have h3:=lnat_lt l
   have h4:=lnat_lt m
   rw [h] at h3
   have ha:a.toNat=b.toNat:=by
    have e1:(a.toNat*C ^ m.length+lnat l) / C ^ m.length=a.toNat:=by
     rw [Nat.mul_comm,Nat.mul_add_div (Cpos _),Nat.div_eq_of_lt h3,Nat.add_zero]
    have e2:(b.toNat*C ^ m.length+lnat m) / C ^ m.length=b.toNat:=by
     rw [Nat.mul_comm,Nat.mul_add_div (Cpos _),Nat.div_eq_of_lt h4,Nat.add_zero]
    rw [← e1,← e2,h2]
   rw [ha] at h2
   rw [UInt8.toNat_inj.1 ha,ih h (by omega)]
theorem bnat_inj {s t:ByteArray} (h:s.size=t.size) (h2:bnat s=bnat t):s=t:=ba_ext (lnat_inj h h2)
/-- n digits of a number. -/
def beL:Nat→Nat→List UInt8
 | 0,_=>[]
 | n+1,Y=>beL n (Y / C)++[UInt8.ofNat (Y % C)]
theorem beL_length:∀ (n Y:Nat),(beL n Y).length=n
 | 0,_=>rfl
 | n+1,Y=>by simp [beL,beL_length n]
theorem ofNat_mod (x:Nat):(UInt8.ofNat (x % C)).toNat=x % C:=by
 have:x % C < 256:=Nat.mod_lt _ (by decide)
 simp [UInt8.toNat_ofNat,Nat.mod_eq_of_lt this]
theorem lnat_beL:∀ (n Y:Nat),lnat (beL n Y)=Y % C ^ n
 | 0,Y=>by simp [beL,lnat,Nat.mod_one]
 | n+1,Y=>by
  rw [beL,lnat_append,lnat_beL n,lnat_cons]
  simp only [List.length_cons,List.length_nil,Nat.zero_add,Nat.pow_zero,Nat.mul_one,Nat.pow_one]
  rw [ofNat_mod,Nat.pow_succ,Nat.mul_comm (C ^ n),Nat.mod_mul]
  simp only [lnat,List.foldl_nil,Nat.add_zero]
  rw [Nat.mul_comm]; omega
def be (n Y:Nat):ByteArray:=⟨⟨beL n Y⟩⟩
theorem be_size (n Y:Nat):(be n Y).size=n:=beL_length n Y
theorem bnat_be (n Y:Nat):bnat (be n Y)=Y % C ^ n:=lnat_beL n Y
/-- How many digits. -/
def nby (N:Nat):Nat:=if h:N=0 then 0 else nby (N / C)+1
decreasing_by exact Nat.div_lt_self (by omega) (by decide)
theorem nby_zero:nby 0=0:=by rw [nby]; rfl
theorem nby_succ {N:Nat} (h:N≠0):nby N=nby (N / C)+1:=by rw [nby]; simp [h]
theorem lt_nby (N:Nat):N < C ^ nby N:=by
 induction N using Nat.strongRecOn with
 | _ N ih =>
  by_cases h:N=0
  ·subst h; rw [nby_zero]; decide
  ·have:=ih (N / C) (Nat.div_lt_self (by omega) (by decide))
   rw [nby_succ h,Nat.pow_succ]
   exact (Nat.div_lt_iff_lt_mul (by decide)).1 this
theorem nby_le {N n:Nat} (h:N < C ^ n):nby N≤n:=by
 induction n generalizing N with
 | zero =>
  have:N=0:=by simpa using h
  subst this; rw [nby_zero]; exact Nat.le_refl _
 | succ n ih =>
  by_cases h0:N=0
  ·subst h0; rw [nby_zero]; omega
  ·have:N / C < C ^ n:=(Nat.div_lt_iff_lt_mul (by decide)).2 (by rw [← Nat.pow_succ]; exact h)
   rw [nby_succ h0]
   have:=ih this
   omega
theorem nby_pos {N:Nat} (h:N≠0):0 < nby N:=by rw [nby_succ h]; omega
theorem nby_eq_zero {N:Nat} (h:nby N=0):N=0:=by
 by_cases h0:N=0
 ·exact h0
 ·have:=nby_pos h0; omega
theorem nby_mono {M N:Nat} (h:M≤N):nby M≤nby N:=nby_le (Nat.lt_of_le_of_lt h (lt_nby N))
theorem lt_of_nby_lt {M N:Nat} (h:nby M < nby N):M < N:=by
 rcases Nat.lt_or_ge M N with h1 | h1
 ·exact h1
 ·have:=nby_mono h1; omega
theorem nby_eq {N n:Nat} (h:N < C ^ n) (h2:n=0∨C ^ (n - 1)≤N):nby N=n:=by
 rcases h2 with rfl | h2
 ·have:=nby_le h; omega
 ·have h3:=nby_le h
  rcases Nat.lt_or_ge (nby N) n with h4 | h4
  ·have h5:C ^ nby N≤C ^ (n - 1):=Nat.pow_le_pow_right (by decide) (by omega)
   have:=lt_nby N
   omega
  ·omega
theorem pow_le_of_nby {N:Nat} (h:N≠0):C ^ (nby N - 1)≤N:=by
 rcases Nat.lt_or_ge N (C ^ (nby N - 1)) with h1 | h1
 ·have:=nby_le h1
  have:=nby_pos h
  omega
 ·exact h1
/-- The digits of a number, no zero ahead. -/
def nb (N:Nat):ByteArray:=be (nby N) N
theorem nb_size (N:Nat):(nb N).size=nby N:=be_size _ _
theorem bnat_nb (N:Nat):bnat (nb N)=N:=by unfold nb; rw [bnat_be,Nat.mod_eq_of_lt (lt_nby N)]
theorem nb_inj {M N:Nat} (h:nb M=nb N):M=N:=by rw [← bnat_nb M,h,bnat_nb]
theorem nb_zero:nb 0=⟨#[]⟩:=by unfold nb; rw [nby_zero]; rfl
theorem nby_bnat_le (s:ByteArray):nby (bnat s)≤s.size:=nby_le (bnat_lt s)
theorem eq_nb {s:ByteArray} (h:s.size=0∨C ^ (s.size - 1)≤bnat s):s=nb (bnat s):=by
 refine bnat_inj ?_ (bnat_nb _).symm
 rw [nb_size,nby_eq (bnat_lt s) h]
theorem eq_nb' {s:ByteArray} (h:s.size=0∨byteAt s 0≠0):s=nb (bnat s):=by
 refine eq_nb (h.imp_right fun h=>?_)
 by_cases h0:s.size=0
 ·exfalso
  apply h
  unfold byteAt
  have:s.data.toList=[]:=List.eq_nil_of_length_eq_zero h0
  rw [this]; rfl
 ·rw [byteAt_eq (by omega)] at h
  rcases Nat.lt_or_ge (bnat s) (C ^ (s.size - 1)) with h1 | h1
  ·rw [Nat.sub_zero,Nat.div_eq_of_lt h1] at h
   exact absurd rfl h
  ·exact h1
/-! ### Strings cut, joined and compared -/
theorem bnat_append (s t:ByteArray):bnat (s++t)=bnat s*C ^ t.size+bnat t:=by
 unfold bnat
 have:(s++t).data.toList=s.data.toList++t.data.toList:=by simp
 rw [this,lnat_append]; rfl
theorem extract_list (s:ByteArray) (l h:Nat):(s.extract l h).data.toList=(s.data.toList.take h).drop l:=by
 simp [ByteArray.data_extract,List.extract,List.drop_take]
theorem size_extract' {s:ByteArray} {l h:Nat} (h1:l≤h) (h2:h≤s.size):(s.extract l h).size=h - l:=by
 rw [← size_eq,extract_list]
 have:h≤s.data.toList.length:=h2
 simp; omega
theorem lnat_drop (l:List UInt8) (n:Nat) (h:n≤l.length):lnat (l.drop n)=lnat l % C ^ (l.length - n):=by
 have e:lnat l=lnat (l.take n)*C ^ (l.drop n).length+lnat (l.drop n):=by rw [← lnat_append,List.take_append_drop]
 have h2:=lnat_lt (l.drop n)
 rw [List.length_drop] at e h2
 rw [e,Nat.mul_comm,Nat.mul_add_mod,Nat.mod_eq_of_lt h2]
theorem lnat_take (l:List UInt8) (n:Nat) (h:n≤l.length):lnat (l.take n)=lnat l / C ^ (l.length - n):=by
 have e:lnat l=lnat (l.take n)*C ^ (l.drop n).length+lnat (l.drop n):=by rw [← lnat_append,List.take_append_drop]
 have h2:=lnat_lt (l.drop n)
 rw [List.length_drop] at e h2
 rw [e,Nat.mul_comm,Nat.mul_add_div (Cpos _),Nat.div_eq_of_lt h2,Nat.add_zero]
theorem bnat_extract {s:ByteArray} {l h:Nat} (h1:l≤h) (h2:h≤s.size):bnat (s.extract l h)=bnat s / C ^ (s.size - h) % C ^ (h - l):=by
 unfold bnat
 have h2':h≤s.data.toList.length:=h2
 have e:(s.data.toList.take h).length=h:=by rw [List.length_take]; omega
 rw [extract_list,lnat_drop _ _ (by rw [e]; exact h1),lnat_take _ _ h2',e]
 rfl
theorem str_eq (s t:ByteArray):(s.toList == t.toList)=decide (s=t):=by
 rw [ByteArray.toList_eq,ByteArray.toList_eq]
 by_cases h:s=t
 ·subst h; simp
 ·simp [h]
  intro h2
  exact h (ba_ext (by rw [h2]))
theorem empty_iff {s:ByteArray}:s=⟨#[]⟩↔s.size=0:=by
 constructor
 ·intro h; subst h; rfl
 ·intro h
  refine ba_ext ?_
  exact List.eq_nil_of_length_eq_zero h
theorem nb_empty_iff {N:Nat}:nb N=⟨#[]⟩↔N=0:=by
 rw [empty_iff,nb_size]
 exact ⟨nby_eq_zero,fun h=>by rw [h,nby_zero]⟩
theorem bytesLess_lt:∀ {l m:List UInt8},l.length=m.length→Op.bytesLess l m=decide (lnat l < lnat m)
 | [],[],_=>by simp [Op.bytesLess,lnat]
 | [],_::_,h=>by simp at h
 | _::_,[],h=>by simp at h
 | a::l,b::m,h=>by
  have h:l.length=m.length:=by simpa using h
  have ih:=bytesLess_lt h
  unfold Op.bytesLess
  rw [ih,lnat_cons,lnat_cons,h]
  have h3:=lnat_lt l
  have h4:=lnat_lt m
  rw [h] at h3
  rcases Nat.lt_trichotomy a.toNat b.toNat with hab | hab | hab
  ·have:a < b:=UInt8.lt_iff_toNat_lt.2 hab
   have h5:(a.toNat+1)*C ^ m.length≤b.toNat*C ^ m.length:=Nat.mul_le_mul_right _ hab
   rw [Nat.add_mul] at h5
   have h6:a.toNat*C ^ m.length+lnat l < b.toNat*C ^ m.length+lnat m:=by omega
   simp [this,h6]
  ·have e:a=b:=UInt8.toNat_inj.1 hab
   subst e
   simp
  ·have:¬ a < b:=fun h=>by have:=UInt8.lt_iff_toNat_lt.1 h; omega
   have h5:(b.toNat+1)*C ^ m.length≤a.toNat*C ^ m.length:=Nat.mul_le_mul_right _ hab
   rw [Nat.add_mul] at h5
   have h6:¬ (a.toNat*C ^ m.length+lnat l < b.toNat*C ^ m.length+lnat m):=by omega
   have h7:¬ a=b:=fun e=>by subst e; omega
   simp [this,h6,h7]
theorem str_less {s t:ByteArray} (h:s.size=t.size):Op.bytesLess s.toList t.toList=decide (bnat s < bnat t):=by
 rw [ByteArray.toList_eq,ByteArray.toList_eq]
 exact bytesLess_lt h
end Go.Ae
/- Numbers: bits of words. Plain Lean, no program in sight. -/
namespace Go.Ae
open Go
theorem fdivp (a:Int) (k:Nat):a.fdiv (2 ^ k)=a / 2 ^ k:=Int.fdiv_eq_ediv_of_nonneg _ (Int.le_of_lt (Int.pow_pos (by decide)))
theorem wrap32_bv (b:BitVec 32):IntKind.u32.wrap (b.toNat:Int)=b.toNat:=wrapu32 (by omega) (by have:=b.isLt; omega)
theorem ofInt_bv {w:Nat} (b:BitVec w):BitVec.ofInt w (b.toNat:Int)=b:=by
 rw [BitVec.ofInt_natCast,BitVec.ofNat_toNat]; simp
theorem top_bit (b:BitVec 32):(b.toNat:Int) / 2147483648=if b.msb then 1 else 0:=by
 have h:=b.isLt
 rw [BitVec.msb_eq_decide]
 by_cases h1:2 ^ (32 - 1)≤b.toNat
 ·simp [h1]; omega
 ·simp [h1]; omega
theorem toNat_ofInt32 (x:Nat) (h:x < 4294967296):(BitVec.ofInt 32 (x:Int)).toNat=x:=by
 rw [BitVec.ofInt_natCast,BitVec.toNat_ofNat]; exact Nat.mod_eq_of_lt h
theorem msb_ofInt32 (x:Nat) (h:x < 4294967296):(BitVec.ofInt 32 (x:Int)).msb=decide (2147483648≤x):=by
 rw [BitVec.msb_eq_decide,toNat_ofInt32 x h]
/-- What Sub32 gives for the borrow. -/
theorem sub32_bits (x y c:Nat) (hx:x < 4294967296) (hy:y < 4294967296) (hc:c≤1) (d:Nat) (hd:d=(x+2*4294967296 - y - c) % 4294967296) :
  (((BitVec.ofInt 32 (4294967295:Int) ^^^ BitVec.ofInt 32 (x:Int)) &&& BitVec.ofInt 32 (y:Int)) ||| ((BitVec.ofInt 32 (4294967295:Int) ^^^ (BitVec.ofInt 32 (x:Int) ^^^ BitVec.ofInt 32 (y:Int))) &&& BitVec.ofInt 32 (d:Int))).msb=decide (x < y+c):=by
 have hd':d < 4294967296:=by omega
 have ho:(BitVec.ofInt 32 (4294967295:Int)).msb=true:=by decide
 rw [BitVec.msb_or,BitVec.msb_and,BitVec.msb_and,BitVec.msb_xor,BitVec.msb_xor,BitVec.msb_xor,ho,msb_ofInt32 x hx,msb_ofInt32 y hy,msb_ofInt32 d hd']
 by_cases h1:2147483648≤x <;> by_cases h2:2147483648≤y <;> by_cases h3:2147483648≤d <;> simp [h1,h2,h3] <;> omega
/-- High and low word. -/
theorem or_word (x y:Nat) (hx:x < 4294967296) (hy:y < 4294967296):((BitVec.ofInt 64 ((x:Int)*4294967296) ||| BitVec.ofInt 64 (y:Int)).toNat:Int)=(x*4294967296+y:Nat):=by
 have e1:BitVec.ofInt 64 ((x:Int)*4294967296)=BitVec.ofNat 64 (x*4294967296):=by
  rw [← BitVec.ofInt_natCast]; congr 1
 rw [e1,BitVec.ofInt_natCast,BitVec.toNat_or,BitVec.toNat_ofNat,BitVec.toNat_ofNat,Nat.mod_eq_of_lt (by omega),Nat.mod_eq_of_lt (by omega)]
 have:=Nat.shiftLeft_add_eq_or_of_lt (i:=32) (b:=y) (by simpa using hy) x
 rw [Nat.shiftLeft_eq] at this
 have h2:(2:Nat) ^ 32=4294967296:=by decide
 rw [h2] at this
 rw [← this]
/-! ### Shifts by a number that the text gives -/
theorem shr_u64_31 (a:Int):a.fdiv (2 ^ min (Int.toNat 31) IntKind.u64.bits)=a / 2147483648:=by rw [fdivp]; rfl
theorem shr_u64_32 (a:Int):a.fdiv (2 ^ min (Int.toNat 32) IntKind.u64.bits)=a / 4294967296:=by rw [fdivp]; rfl
theorem shr_u32_8 (a:Int):a.fdiv (2 ^ min (Int.toNat 8) IntKind.u32.bits)=a / 256:=by rw [fdivp]; rfl
theorem shr_u32_16 (a:Int):a.fdiv (2 ^ min (Int.toNat 16) IntKind.u32.bits)=a / 65536:=by rw [fdivp]; rfl
theorem shr_u32_24 (a:Int):a.fdiv (2 ^ min (Int.toNat 24) IntKind.u32.bits)=a / 16777216:=by rw [fdivp]; rfl
theorem shr_i64_8 (a:Int):a.fdiv (2 ^ min (Int.toNat 8) IntKind.i64.bits)=a / 256:=by rw [fdivp]; rfl
def sub32d (x y c:Int):Int:=IntKind.u32.wrap (IntKind.u32.wrap (x - y) - c)
def sub32b (x y c:Int):Int:=(IntKind.u32.wrap ((BitVec.ofInt 32 (IntKind.u32.wrap ((BitVec.ofInt 32 (IntKind.u32.wrap ((BitVec.ofInt 32 (4294967295:Int) ^^^ BitVec.ofInt 32 x).toNat:Int)) &&& BitVec.ofInt 32 y).toNat:Int)) |||
 BitVec.ofInt 32 (IntKind.u32.wrap ((BitVec.ofInt 32 (IntKind.u32.wrap ((BitVec.ofInt 32 (4294967295:Int) ^^^ BitVec.ofInt 32 (IntKind.u32.wrap ((BitVec.ofInt 32 x ^^^ BitVec.ofInt 32 y).toNat:Int))).toNat:Int)) &&&
  BitVec.ofInt 32 (sub32d x y c)).toNat:Int))).toNat:Int)).fdiv (2 ^ 31)
theorem sub32d_eq {x y c:Nat} (hx:x < 4294967296) (hy:y < 4294967296) (hc:c≤1):sub32d x y c=((x+2*4294967296 - y - c) % 4294967296:Nat):=by
 unfold sub32d
 rw [wrapu32',wrapu32']; omega
theorem sub32b_eq {x y c:Nat} (hx:x < 4294967296) (hy:y < 4294967296) (hc:c≤1):sub32b x y c=if x < y+c then 1 else 0:=by
 unfold sub32b
 rw [sub32d_eq hx hy hc]
 simp only [wrap32_bv,ofInt_bv,fdivp]
 rw [show (2:Int) ^ 31=2147483648 by decide,top_bit,sub32_bits x y c hx hy hc _ rfl]
 simp
theorem log2_eq {x k:Nat} (h1:2 ^ k≤x) (h2:x < 2 ^ (k+1)):x.log2=k:=by
 have hx:x≠0:=by have:=Nat.pow_pos (n:=k) (show 0 < 2 by decide); omega
 have a1:=(Nat.log2_lt hx).2 h2
 have a2:=(Nat.le_log2 hx).2 h1
 omega
def blen (x:Nat):Nat:=if x=0 then 0 else x.log2+1
theorem lt_blen (x:Nat):x < 2 ^ blen x:=by
 unfold blen
 split
 ·omega
 ·rename_i h; exact (Nat.log2_lt h).1 (Nat.lt_succ_self _)
theorem pow_le_of_blen {x:Nat} (h:x≠0):2 ^ (blen x - 1)≤x:=by
 unfold blen
 rw [if_neg h]
 exact (Nat.le_log2 h).1 (Nat.le_refl _)
theorem blen_eq {x k:Nat} (h1:x < 2 ^ k) (h2:k=0∨2 ^ (k - 1)≤x):blen x=k:=by
 rcases h2 with rfl | h2
 ·have:x=0:=by simpa using h1
  subst this; rfl
 ·by_cases h0:k=0
  ·subst h0
   have:x=0:=by simpa using h1
   subst this; rfl
  ·have hx:x≠0:=by have:=Nat.pow_pos (n:=k - 1) (show 0 < 2 by decide); omega
   unfold blen
   rw [if_neg hx,log2_eq h2 (by rw [show k - 1+1=k by omega]; exact h1)]
   omega
theorem blen_shift {x k:Nat} (h:2 ^ k≤x):blen x=k+blen (x / 2 ^ k):=by
 have hp:=Nat.pow_pos (n:=k) (show 0 < 2 by decide)
 have hq:x / 2 ^ k≠0:=by have:=Nat.div_pos h hp; omega
 have hb:0 < blen (x / 2 ^ k):=by unfold blen; rw [if_neg hq]; omega
 refine blen_eq ?_ (.inr ?_)
 ·have:=lt_blen (x / 2 ^ k)
  rw [Nat.pow_add,Nat.mul_comm]
  exact (Nat.div_lt_iff_lt_mul hp).1 this
 ·have:=pow_le_of_blen hq
  rw [show k+blen (x / 2 ^ k) - 1=k+(blen (x / 2 ^ k) - 1) by omega,Nat.pow_add,Nat.mul_comm]
  exact (Nat.le_div_iff_mul_le hp).1 this
theorem or_word' (x y:Nat) (hx:x < 4294967296) (hy:y < 4294967296):IntKind.u64.wrap ((BitVec.ofInt IntKind.u64.bits ((x:Int)*4294967296) ||| BitVec.ofInt IntKind.u64.bits (y:Int)).toNat:Int)=(x:Int)*4294967296+y:=by
 have h:=or_word x y hx hy
 have:IntKind.u64.wrap ((BitVec.ofInt 64 ((x:Int)*4294967296) ||| BitVec.ofInt 64 (y:Int)).toNat:Int)=(x:Int)*4294967296+y:=by
  rw [h,wrapu64 (by omega) (by omega)]; omega
 exact this
theorem or_byte (x y:Nat) (hx:x < 36028797018963968) (hy:y < 256):((BitVec.ofInt 64 ((x:Int)*256) ||| BitVec.ofInt 64 (y:Int)).toNat:Int)=(x*256+y:Nat):=by
 have e1:BitVec.ofInt 64 ((x:Int)*256)=BitVec.ofNat 64 (x*256):=by
  rw [← BitVec.ofInt_natCast]; congr 1
 rw [e1,BitVec.ofInt_natCast,BitVec.toNat_or,BitVec.toNat_ofNat,BitVec.toNat_ofNat,Nat.mod_eq_of_lt (by omega),Nat.mod_eq_of_lt (by omega)]
 have:=Nat.shiftLeft_add_eq_or_of_lt (i:=8) (b:=y) (by simpa using hy) x
 rw [Nat.shiftLeft_eq] at this
 have h2:(2:Nat) ^ 8=256:=by decide
 rw [h2] at this
 rw [← this]
theorem or_byte' (x y:Nat) (hx:x < 36028797018963968) (hy:y < 256):IntKind.i64.wrap ((BitVec.ofInt IntKind.i64.bits ((x:Int)*256) ||| BitVec.ofInt IntKind.i64.bits (y:Int)).toNat:Int)=(x:Int)*256+y:=by
 have h:=or_byte x y hx hy
 have:IntKind.i64.wrap ((BitVec.ofInt 64 ((x:Int)*256) ||| BitVec.ofInt 64 (y:Int)).toNat:Int)=(x:Int)*256+y:=by
  rw [h,wrapi64 (by omega) (by omega)]; omega
 exact this
theorem toNat_cast (n:Nat):((n:Int)).toNat=n:=Int.toNat_natCast n
theorem blen_u8 {x:Nat} (h:x < 256):blen x≤8:=by
 unfold blen
 split
 ·omega
 ·rename_i h0; have:=(Nat.log2_lt h0).2 (show x < 2 ^ 8 from h); omega
theorem blen_u32 {x:Nat} (h:x < 4294967296):blen x≤32:=by
 unfold blen
 split
 ·omega
 ·rename_i h0; have:=(Nat.log2_lt h0).2 (show x < 2 ^ 32 from h); omega
theorem capSub_zero (c:Nat):capSub c 0=c:=by
 unfold capSub
 cases h:decide (c=capU) with
 | true=>exact (of_decide_eq_true h).symm
 | false=>rfl
theorem toNat_0:Int.toNat 0=0:=rfl
theorem toNat_1:Int.toNat 1=1:=rfl
theorem or_add (x y k:Nat) (hx:x < 2 ^ k):x ||| (y*2 ^ k)=x+y*2 ^ k:=by
 have:=Nat.shiftLeft_add_eq_or_of_lt hx y
 rw [Nat.shiftLeft_eq] at this
 rw [Nat.or_comm,← this,Nat.add_comm]
theorem or_shift32 (x y e:Nat) (hx:x < 256 ^ e) (hy:y < 256) (he:e < 4):IntKind.u32.wrap ((BitVec.ofInt IntKind.u32.bits (x:Int) ||| BitVec.ofInt IntKind.u32.bits (IntKind.u32.wrap ((y:Int)*2 ^ (min (8*e) IntKind.u32.bits)))).toNat:Int)=((x+y*256 ^ e:Nat):Int):=by
 have hp:(256:Nat) ^ e=2 ^ (8*e):=by rw [show (256:Nat)=2 ^ 8 from rfl,← Nat.pow_mul]
 have hlt:x+y*2 ^ (8*e) < 4294967296:=by
  have h1:(y+1)*2 ^ (8*e)≤256*2 ^ (8*e):=Nat.mul_le_mul_right _ hy
  have h2:256*2 ^ (8*e)≤4294967296:=by
   have:2 ^ (8*e)≤2 ^ 24:=Nat.pow_le_pow_right (by decide) (by omega)
   omega
  rw [Nat.add_mul] at h1
  rw [hp] at hx
  omega
 have hx':x < 2 ^ (8*e):=by rw [← hp]; exact hx
 have e1:IntKind.u32.wrap ((y:Int)*2 ^ (min (8*e) 32))=((y*2 ^ (8*e):Nat):Int):=by
  rw [show min (8*e) 32=8*e by omega]
  have:((y*2 ^ (8*e):Nat):Int)=(y:Int)*2 ^ (8*e):=by simp
  rw [← this,wrapu32 (by omega) (by omega)]
 have key:IntKind.u32.wrap ((BitVec.ofInt 32 (x:Int) ||| BitVec.ofInt 32 (IntKind.u32.wrap ((y:Int)*2 ^ (min (8*e) 32)))).toNat:Int)=((x+y*256 ^ e:Nat):Int):=by
  rw [e1,wrap32_bv,BitVec.toNat_or,toNat_ofInt32 _ (by omega),toNat_ofInt32 _ (by omega),or_add _ _ _ hx',hp]
 exact key
theorem nl_eq' {N n:Nat} (h:N < B ^ n) (h2:n=0∨B ^ (n - 1)≤N):nl N=n:=by
 rcases h2 with rfl | h2
 ·have:=nl_le h; omega
 ·have h3:=nl_le h
  rcases Nat.lt_or_ge (nl N) n with h4 | h4
  ·have h5:B ^ nl N≤B ^ (n - 1):=Nat.pow_le_pow_right (by decide) (by omega)
   have:=lt_nl N
   omega
  ·omega
theorem B_eq (n:Nat):B ^ n=C ^ (4*n):=by rw [Nat.pow_mul]; rfl
theorem nl_nby (N:Nat):nl N=(nby N+3) / 4:=by
 refine nl_eq' ?_ ?_
 ·rw [B_eq]
  exact Nat.lt_of_lt_of_le (lt_nby N) (Nat.pow_le_pow_right (by decide) (by omega))
 ·by_cases h:N=0
  ·left; subst h; rw [nby_zero]
  ·right
   have:=nby_pos h
   rw [B_eq]
   exact Nat.le_trans (Nat.pow_le_pow_right (by decide) (by omega)) (pow_le_of_nby h)
/-- One more byte. -/
theorem load_step (N i:Nat):setLimb (N % C ^ i) (i / 4) (limb (N % C ^ i) (i / 4)+N / C ^ i % C*256 ^ (i % 4))=N % C ^ (i+1)∧limb (N % C ^ i) (i / 4) < 256 ^ (i % 4):=by
 have hB:B ^ (i / 4)*256 ^ (i % 4)=C ^ i:=by
  rw [B_eq,← Nat.pow_add]; congr 1; omega
 have hlt:N % C ^ i < C ^ i:=Nat.mod_lt _ (Cpos i)
 have hl:limb (N % C ^ i) (i / 4) < 256 ^ (i % 4):=by
  have h1:N % C ^ i / B ^ (i / 4) < 256 ^ (i % 4):=(Nat.div_lt_iff_lt_mul (Bpos _)).2 (by rw [Nat.mul_comm,hB]; exact hlt)
  unfold limb
  exact Nat.lt_of_le_of_lt (Nat.mod_le _ _) h1
 refine ⟨?_,hl⟩
 have h:=setLimb_num (N % C ^ i) (i / 4) (limb (N % C ^ i) (i / 4)+N / C ^ i % C*256 ^ (i % 4))
 have e:N % C ^ (i+1)=N % C ^ i+C ^ i*(N / C ^ i % C):=by rw [Nat.pow_succ,Nat.mod_mul]
 have e2:N / C ^ i % C*256 ^ (i % 4)*B ^ (i / 4)=C ^ i*(N / C ^ i % C):=by
  rw [Nat.mul_assoc,Nat.mul_comm (256 ^ (i % 4)),hB,Nat.mul_comm]
 rw [Nat.add_mul,e2] at h
 omega
theorem tdiv4 (a:Nat):((a:Int)).tdiv 4=((a / 4:Nat):Int):=rfl
theorem tmod4 (a:Nat):((a:Int)).tmod 4=((a % 4:Nat):Int):=rfl
theorem cast_mul8 (a:Nat):(8:Int)*(a:Int)=((8*a:Nat):Int):=by omega
theorem sub1c {m:Nat} (h:0 < m):(m:Int) - 1=((m - 1:Nat):Int):=by omega
theorem add1c (m:Nat):(m:Int)+1=((m+1:Nat):Int):=by omega
theorem subc {a b:Nat} (h:b≤a):(a:Int) - (b:Int)=((a - b:Nat):Int):=by omega
theorem addc (a b:Nat):(a:Int)+(b:Int)=((a+b:Nat):Int):=by omega
theorem mul8c (a:Nat):(8:Int)*(a:Int)=((8*a:Nat):Int):=by omega
/-! ### Limbs as bytes -/
theorem store_lo {Q L m r:Nat} (hL:L < B) (hr:r < m):(Q*B+L) / C ^ (m+4 - 1 - r) % C=Q / C ^ (m - 1 - r) % C:=by
 have e:C ^ (m+4 - 1 - r)=B*C ^ (m - 1 - r):=by
  rw [show m+4 - 1 - r=4+(m - 1 - r) by omega,Nat.pow_add]; rfl
 rw [e,← Nat.div_div_eq_div_mul]
 have:(Q*B+L) / B=Q:=by rw [Nat.mul_comm,Nat.mul_add_div (by decide),Nat.div_eq_of_lt hL,Nat.add_zero]
 rw [this]
theorem store_hi {Q L e:Nat} (he:e≤3):(Q*B+L) / C ^ e % C=L / C ^ e % C:=by
 have h:B=C ^ e*(C ^ (3 - e)*C):=by
  rw [← Nat.mul_assoc,← Nat.pow_add,← Nat.pow_succ,show (e+(3 - e)).succ=4 by omega]; rfl
 rw [show Q*B=C ^ e*(Q*C ^ (3 - e)*C) by rw [h,Nat.mul_comm Q,Nat.mul_assoc,Nat.mul_comm (C ^ (3 - e)*C) Q,Nat.mul_assoc Q]]
 rw [Nat.mul_add_div (Cpos _),Nat.mul_add_mod_self_right]
theorem beL_get:∀ {n Y r:Nat} (h:r < n),(beL n Y)[r]?=some (UInt8.ofNat (Y / C ^ (n - 1 - r) % C))
 | n+1,Y,r,h=>by
  unfold beL
  by_cases hr:r < n
  ·rw [List.getElem?_append_left (by rw [beL_length]; exact hr),beL_get hr,Nat.div_div_eq_div_mul,← Nat.pow_succ']
   congr 5; omega
  ·have:r=n:=by omega
   subst this
   rw [List.getElem?_append_right (by rw [beL_length]; exact Nat.le_refl _),beL_length]
   simp
theorem bytesOf_be {g:Nat→List Value} {m X:Nat} (h:∀ r,r < m→g r=[.int .u8 ((X / C ^ (m - 1 - r) % C:Nat):Int)]):(⟨⟨bytesOf g 0 m⟩⟩:ByteArray)=be m X:=by
 unfold be
 congr 2
 apply List.ext_getElem?
 intro r
 by_cases hr:r < m
 ·rw [beL_get hr]
  unfold bytesOf
  rw [List.getElem?_map,List.getElem?_range hr]
  simp only [Option.map_some,Nat.zero_add,h r hr,toNat_cast]
 ·rw [List.getElem?_eq_none (l:=beL m X) (by rw [beL_length]; omega),List.getElem?_eq_none (by simp [bytesOf]; omega)]
theorem shl_u64_32 (a:Int):a*2 ^ min (Int.toNat 32) IntKind.u64.bits=a*4294967296:=rfl
theorem shl_i64_8 (a:Int):a*2 ^ min (Int.toNat 8) IntKind.i64.bits=a*256:=rfl
theorem u8_24 (L:Nat):IntKind.u8.wrap ((L:Int) / 16777216)=((L / C ^ 3 % C:Nat):Int):=by rw [wrapu8']; rfl
theorem u8_16 (L:Nat):IntKind.u8.wrap ((L:Int) / 65536)=((L / C ^ 2 % C:Nat):Int):=by rw [wrapu8']; rfl
theorem u8_8 (L:Nat):IntKind.u8.wrap ((L:Int) / 256)=((L / C ^ 1 % C:Nat):Int):=by rw [wrapu8']; rfl
theorem u8_0 (L:Nat):IntKind.u8.wrap (L:Int)=((L / C ^ 0 % C:Nat):Int):=by rw [wrapu8',Nat.pow_zero,Nat.div_one]; rfl
/-- The four bytes of a limb behind those of the number above it. -/
theorem store_rows {N i m:Nat} {g:Nat→List Value} (hi:0 < i) (hg:∀ r,r < m→g r=[.int .u8 ((N / B ^ i / C ^ (m - 1 - r) % C:Nat):Int)]) {L0 L1 L2 L3:List Value}
  (h0:L0=[.int .u8 ((limb N (i - 1) / C ^ 3 % C:Nat):Int)]) (h1:L1=[.int .u8 ((limb N (i - 1) / C ^ 2 % C:Nat):Int)]) (h2:L2=[.int .u8 ((limb N (i - 1) / C ^ 1 % C:Nat):Int)]) (h3:L3=[.int .u8 ((limb N (i - 1) / C ^ 0 % C:Nat):Int)]) :
  ∀ r,r < m+4→appGet g m (fun j=>[L0,L1,L2,L3].getD j []) r=[.int .u8 ((N / B ^ (i - 1) / C ^ (m+4 - 1 - r) % C:Nat):Int)]:=by
 intro r hr
 have hd:=div_succ N (i - 1)
 rw [show i - 1+1=i by omega] at hd
 have hd:N / B ^ (i - 1)=N / B ^ i*B+limb N (i - 1):=by rw [hd,Nat.add_comm,Nat.mul_comm]
 by_cases h:r < m
 ·rw [appGet_lo h,hg r h,hd,store_lo (limb_lt _ _) h]
 ·rw [appGet_hi (by omega),hd,store_hi (by omega)]
  have:r - m=0∨r - m=1∨r - m=2∨r - m=3:=by omega
  rcases this with e | e | e | e <;> rw [e]
  ·rw [show m+4 - 1 - r=3 by omega]; exact h0
  ·rw [show m+4 - 1 - r=2 by omega]; exact h1
  ·rw [show m+4 - 1 - r=1 by omega]; exact h2
  ·rw [show m+4 - 1 - r=0 by omega]; exact h3
theorem setLimb_new {Y i d:Nat} (hY:Y < B ^ i):setLimb Y i d=Y+d*B ^ i:=by
 have h:=setLimb_num Y i d
 rw [limb_top hY (Nat.le_refl _),Nat.zero_mul,Nat.add_zero] at h
 exact h
theorem minus_arith {x y b d b' P K Y u v:Nat} (hY:Y < P) (he:u+b*P=Y+v) (hd:x+b'*K=y+b+d) (hdB:d < K):Y+d*P < P*K∧u+x*P+b'*(P*K)=Y+d*P+(v+y*P):=by
 have h1:(x+b'*K)*P=(y+b+d)*P:=by rw [hd]
 rw [Nat.add_mul,Nat.add_mul,Nat.add_mul] at h1
 have h2:b'*(P*K)=b'*K*P:=by rw [Nat.mul_comm P,Nat.mul_assoc]
 have h3:(d+1)*P≤P*K:=by rw [Nat.mul_comm P]; exact Nat.mul_le_mul_right _ hdB
 rw [Nat.add_mul,Nat.one_mul] at h3
 rw [h2]
 exact ⟨by omega,by omega⟩
/-- One limb of a difference. -/
theorem minus_step {A D Y b i d b':Nat} (hY:Y < B ^ i) (he:A % B ^ i+b*B ^ i=Y+D % B ^ i) (hd:limb A i+b'*B=limb D i+b+d) (hdB:d < B) :
  setLimb Y i d < B ^ (i+1)∧A % B ^ (i+1)+b'*B ^ (i+1)=setLimb Y i d+D % B ^ (i+1):=by
 rw [setLimb_new hY,mod_succ A i,mod_succ D i,Nat.pow_succ]
 exact minus_arith hY he hd hdB
theorem setLimb_lt {Z j d m:Nat} (hZ:Z < B ^ m) (hj:j < m) (hd:d < B):setLimb Z j d < B ^ m:=by
 have h1:(setLimb Z j d) / B ^ m=0:=by
  have e:B ^ m=B ^ j*(B*B ^ (m - j - 1)):=by
   rw [← Nat.mul_assoc,← Nat.pow_succ,← Nat.pow_add,show j+1+(m - j - 1)=m by omega]
  have ha:Z % B ^ j < B ^ j:=Nat.mod_lt _ (Bpos j)
  unfold setLimb
  rw [e,← Nat.div_div_eq_div_mul,add_mul_div ha,← Nat.div_div_eq_div_mul,add_mul_div hd,Nat.div_div_eq_div_mul,← Nat.pow_add,show j+1+(m - j - 1)=m by omega]
  exact Nat.div_eq_of_lt hZ
 rcases Nat.lt_or_ge (setLimb Z j d) (B ^ m) with h | h
 ·exact h
 ·have:=Nat.div_pos h (Bpos m)
  omega
theorem times_arith {Z Z' l c x d P Q K t Y v:Nat} (he:Z+c*(P*Q)=Y+x*v*P) (hs:Z'+l*(P*Q)=Z+t % K*(P*Q)) (ht:t=c+(x*d+l)) :
  Z'+t / K*(P*Q*K)=Y+x*(v+d*Q)*P:=by
 have h1:=Nat.mod_add_div t K
 have h2:(t % K+K*(t / K))*(P*Q)=(c+(x*d+l))*(P*Q):=by rw [h1,ht]
 rw [Nat.add_mul,Nat.add_mul,Nat.add_mul] at h2
 have e1:K*(t / K)*(P*Q)=t / K*(P*Q*K):=by
  rw [Nat.mul_comm K,Nat.mul_assoc,Nat.mul_comm K]
 have e2:x*(v+d*Q)*P=x*v*P+x*d*(P*Q):=by
  rw [Nat.mul_add,Nat.add_mul,← Nat.mul_assoc x d Q,Nat.mul_assoc (x*d),Nat.mul_comm Q P]
 rw [e1] at h2
 rw [e2]
 generalize t / K*(P*Q*K)=a1 at *
 generalize t % K*(P*Q)=a2 at *
 generalize c*(P*Q)=a3 at *
 generalize x*d*(P*Q)=a4 at *
 generalize l*(P*Q)=a5 at *
 generalize x*v*P=a6 at *
 omega
theorem times_carry {c x d l K t:Nat} (hc:c < K) (hx:x < K) (hd:d < K) (hl:l < K) (ht:t=c+(x*d+l)):t / K < K∧t < K*K:=by
 have h1:(x+1)*(d+1)≤K*K:=Nat.mul_le_mul hx hd
 have h2:t < K*K:=by
  rw [Nat.add_mul,Nat.mul_add] at h1
  by_cases hk:K=0
  ·omega
  ·have h3:x*d≤(K - 1)*(K - 1):=Nat.mul_le_mul (by omega) (by omega)
   obtain ⟨k,rfl⟩:∃ k,K=k+1:=⟨K - 1,by omega⟩
   rw [Nat.add_sub_cancel] at h3
   have e:(k+1)*(k+1)=k*k+k+k+1:=by rw [Nat.add_mul,Nat.mul_add]; omega
   omega
 exact ⟨(Nat.div_lt_iff_lt_mul (by omega)).2 h2,h2⟩
/-- One limb of a product. -/
theorem times_step {Z c x D i k t Y:Nat} (he:Z+c*B ^ (i+k)=Y+x*(D % B ^ k)*B ^ i) (ht:t=c+(x*limb D k+limb Z (i+k))) :
  setLimb Z (i+k) (t % B)+t / B*B ^ (i+(k+1))=Y+x*(D % B ^ (k+1))*B ^ i:=by
 have hs:=setLimb_num Z (i+k) (t % B)
 rw [mod_succ D k,← Nat.add_assoc,Nat.pow_succ]
 rw [Nat.pow_add] at he hs ⊢
 exact times_arith he hs ht
theorem times_row {A D Y Z c i n:Nat} (hY:Y=A % B ^ i*D) (hD:D < B ^ n) (hZ:Z < B ^ (i+n)) (he:Z+c*B ^ (i+n)=Y+limb A i*(D % B ^ n)*B ^ i) :
  setLimb Z (i+n) c=A % B ^ (i+1)*D:=by
 rw [setLimb_new hZ,he,Nat.mod_eq_of_lt hD,hY,mod_succ,Nat.add_mul,Nat.mul_assoc (limb A i),Nat.mul_comm D,← Nat.mul_assoc]
theorem times_val {c x d l t:Nat} (hc:c < B) (hx:x < B) (hd:d < B) (hl:l < B) (ht:t=c+(x*d+l)) :
  IntKind.u64.wrap ((c:Int)+IntKind.u64.wrap (IntKind.u64.wrap (IntKind.u64.wrap (x:Int)*IntKind.u64.wrap (d:Int))+IntKind.u64.wrap (l:Int)))=(t:Int):=by
 have hB:B=4294967296:=rfl
 have h:=(times_carry hc hx hd hl ht).2
 have hm:((x:Int)*(d:Int))=((x*d:Nat):Int):=by simp
 rw [wrapu64 (x:=(x:Int)) (by omega) (by omega),wrapu64 (x:=(d:Int)) (by omega) (by omega),wrapu64 (x:=(l:Int)) (by omega) (by omega),hm]
 generalize x*d=m at *
 rw [hB] at h
 rw [wrapu64 (x:=(m:Int)) (by omega) (by omega),wrapu64 (x:=(m:Int)+(l:Int)) (by omega) (by omega),wrapu64 (by omega) (by omega)]
 omega
theorem u32_mod (t:Nat):IntKind.u32.wrap (t:Int)=((t % B:Nat):Int):=by rw [wrapu32']; rfl
theorem div_B (t:Nat):(t:Int) / 4294967296=((t / B:Nat):Int):=rfl
end Go.Ae
/- What the functions of bigint give: contracts in terms of numbers. -/
namespace Go.Ae
open Go
def u32 (n:Nat):Value:=.int .u32 n
def i64 (n:Int):Value:=.int .i64 n
def add32S:PSpec:={ ι:=Nat × Nat × Nat,args:=fun i=>[.int .u32 i.1,.int .u32 i.2.1,.int .u32 i.2.2],pre:=fun i=>i.1 < 4294967296∧i.2.1 < 4294967296∧i.2.2≤1,val:=fun i=>.tuple ⟨[.int .u32 ((i.1+i.2.1+i.2.2) % 4294967296:Nat),.int .u32 ((i.1+i.2.1+i.2.2) / 4294967296:Nat)]⟩ }
def sub32S:PSpec:={ ι:=Nat × Nat × Nat,args:=fun i=>[.int .u32 i.1,.int .u32 i.2.1,.int .u32 i.2.2],pre:=fun i=>i.1 < 4294967296∧i.2.1 < 4294967296∧i.2.2≤1,val:=fun i=>.tuple ⟨[.int .u32 ((i.1+2*4294967296 - i.2.1 - i.2.2) % 4294967296:Nat),.int .u32 (if i.1 < i.2.1+i.2.2 then 1 else 0:Nat)]⟩ }
def div32S:PSpec:={ ι:=Nat × Nat × Nat,args:=fun i=>[.int .u32 i.1,.int .u32 i.2.1,.int .u32 i.2.2],pre:=fun i=>i.1 < i.2.2∧i.2.1 < 4294967296∧i.2.2 < 4294967296,val:=fun i=>.tuple ⟨[.int .u32 ((i.1*4294967296+i.2.1) / i.2.2:Nat),.int .u32 ((i.1*4294967296+i.2.1) % i.2.2:Nat)]⟩ }
def len32S:PSpec:={ ι:=Nat,args:=fun x=>[.int .u32 x],pre:=fun x=>x < 4294967296,val:=fun x=>.int .i64 (blen x:Nat) }
def lz32S:PSpec:={ ι:=Nat,args:=fun x=>[.int .u32 x],pre:=fun x=>x < 4294967296,val:=fun x=>.int .i64 (32 - blen x:Nat) }
/-! ### bigint: strings and limbs -/
def stripS:PSpec:={ ι:=ByteArray,args:=fun s=>[.string s],pre:=fun s=>s.size≤1099511627776,val:=fun s=>.string (nb (bnat s)) }
/-- A number as a slice of limbs: length, value, capacity; or nil. -/
abbrev LV:=Option (Nat × Nat × Nat)
def LV.val:LV→Value
 | none=>.slice none 0 0
 | some (n,_,c)=>.slice (some ⟨0,0,none⟩) n c
def LV.blks:LV→List Blk
 | none=>[]
 | some (n,N,_)=>[.flat false n 1 (limbRow N)]
def LV.num:LV→Nat
 | none=>0
 | some (_,N,_)=>N
def LV.ok:LV→Prop
 | none=>True
 | some (n,N,_)=>N < 4294967296 ^ n∧n≤274877906944
def LV.cut:LV→Value
 | none=>.slice none 0 0
 | some (_,N,c)=>.slice (some ⟨0,0,none⟩) (nl N) c
def trimS:QSpec:={ ι:=LV,args:=fun i=>[i.val],blks:=LV.blks,pre:=LV.ok,val:=LV.cut,new:=fun _=>none }
def storeS:QSpec:={ ι:=LV,args:=fun i=>[i.val],blks:=LV.blks,pre:=LV.ok,val:=fun i=>.string (nb i.num),new:=fun _=>none }
def loadS:QSpec:={ ι:=ByteArray,args:=fun s=>[.string s],blks:=fun _=>[],pre:=fun s=>s.size≤1099511627776,val:=fun s=>.slice (some ⟨0,0,none⟩) (nl (bnat s)) capU,new:=fun s=>some (.flat false (nl (bnat s)) 1 (limbRow (bnat s))) }
def packS:QSpec:={ ι:=Bool × LV,args:=fun i=>[.bool i.1,i.2.val],blks:=fun i=>i.2.blks,pre:=fun i=>i.2.ok,val:=fun i=>.agg ⟨[.bool (i.1 && i.2.num != 0),.string (nb i.2.num)]⟩,new:=fun _=>none }
/-! ### bigint: arithmetic of canonical limbs -/
/-- Two canonical numbers in two blocks. -/
def two (A ca D cd:Nat):List Value:=[.slice (some ⟨0,0,none⟩) (nl A) ca,.slice (some ⟨1,0,none⟩) (nl D) cd]
def blk2 (A D:Nat):List Blk:=[.flat false (nl A) 1 (limbRow A),.flat false (nl D) 1 (limbRow D)]
abbrev I2:=Nat × Nat × Nat × Nat
def small2 (i:I2):Prop:=nl i.1≤137438953472∧nl i.2.2.1≤137438953472
def cmpN (A D:Nat):Int:=if A < D then -1 else if D < A then 1 else 0
def compareS:QSpec:={ ι:=I2,args:=fun i=>two i.1 i.2.1 i.2.2.1 i.2.2.2,blks:=fun i=>blk2 i.1 i.2.2.1,pre:=small2,val:=fun i=>.int .i64 (cmpN i.1 i.2.2.1),new:=fun _=>none }
/-- A new number. -/
def newN (id N:Nat):Value:=.slice (some ⟨id,0,none⟩) (nl N) capU
def newB (N:Nat):Blk:=.flat false (nl N) 1 (limbRow N)
def plusS:QSpec:={ ι:=I2,args:=fun i=>two i.1 i.2.1 i.2.2.1 i.2.2.2,blks:=fun i=>blk2 i.1 i.2.2.1,pre:=small2,val:=fun i=>newN 2 (i.1+i.2.2.1),new:=fun i=>some (newB (i.1+i.2.2.1)) }
def minusS:QSpec:={ ι:=I2,args:=fun i=>two i.1 i.2.1 i.2.2.1 i.2.2.2,blks:=fun i=>blk2 i.1 i.2.2.1,pre:=fun i=>small2 i∧i.2.2.1≤i.1,val:=fun i=>newN 2 (i.1 - i.2.2.1),new:=fun i=>some (newB (i.1 - i.2.2.1)) }
def timesS:QSpec:={ ι:=I2,args:=fun i=>two i.1 i.2.1 i.2.2.1 i.2.2.2,blks:=fun i=>blk2 i.1 i.2.2.1,pre:=small2,val:=fun i=>newN 2 (i.1*i.2.2.1),new:=fun i=>some (newB (i.1*i.2.2.1)) }
end Go.Ae
/- Laws of limbs: sums and appended rows. -/
namespace Go.Ae
open Go
theorem plus_arith {Y c P K a d x y t:Nat} (he:Y+c*P=a+d) (ht:t=c+x+y):Y+t % K*P+t / K*(P*K)=(a+x*P)+(d+y*P):=by
 have h:=Nat.mod_add_div t K
 have e1:t*P=t % K*P+t / K*(P*K):=by
  calc t*P=(t % K+K*(t / K))*P:=by rw [h]
   _=t % K*P+t / K*(P*K):=by rw [Nat.add_mul,Nat.mul_comm K,Nat.mul_assoc,Nat.mul_comm K P]
 have e2:t*P=c*P+x*P+y*P:=by rw [ht,Nat.add_mul,Nat.add_mul]
 omega
theorem plus_step {X D Y c i t:Nat} (he:Y+c*B ^ i=X % B ^ i+D % B ^ i) (ht:t=c+limb X i+limb D i) :
  Y+t % B*B ^ i+t / B*B ^ (i+1)=X % B ^ (i+1)+D % B ^ (i+1):=by
 rw [mod_succ X i,mod_succ D i,Nat.pow_succ]
 exact plus_arith he ht
theorem add_new_lt {Y d i:Nat} (hY:Y < B ^ i) (hd:d < B):Y+d*B ^ i < B ^ (i+1):=by
 have h:(d+1)*B ^ i≤B*B ^ i:=Nat.mul_le_mul_right _ hd
 rw [Nat.pow_succ,Nat.mul_comm (B ^ i) B]
 rw [Nat.add_mul] at h
 omega
/-- A row appended. -/
theorem limb_new {Y d i:Nat} (hY:Y < B ^ i) (hd:d < B) {r:Nat} (hr:r < i+1):limb (Y+d*B ^ i) r=if r < i then limb Y r else d:=by
 rw [← setLimb_new hY,limb_set hd]
 split <;> split <;> first | rfl | omega
/-- A block after an append of one limb. -/
theorem app_row {Y d i:Nat} (hY:Y < B ^ i) (hd:d < B) {g:Nat→List Value} (hg:∀ r,r < i→g r=limbRow Y r) :
  ∀ r,r < i+1→appGet g i (fun j=>[[Value.int .u32 (d:Nat)]].getD j []) r=limbRow (Y+d*B ^ i) r:=by
 intro r hr
 have h:=limb_new hY hd hr
 by_cases h1:r < i
 ·rw [appGet_lo h1,hg r h1]
  rw [if_pos h1] at h
  simp [limbRow,h]
 ·rw [appGet_hi (by omega),show r - i=0 by omega]
  rw [if_neg h1] at h
  simp [limbRow,h]
theorem u64_add2 {a b:Nat} (ha:a < 4611686018427387904) (hb:b < 4611686018427387904):IntKind.u64.wrap ((a:Int)+IntKind.u64.wrap (b:Int))=((a+b:Nat):Int):=by
 rw [wrapu64 (x:=(b:Int)) (by omega) (by omega),wrapu64 (by omega) (by omega)]; omega
end Go.Ae
/- Laws of limbs: division by one limb, shifts, the digit of a long division. -/
namespace Go.Ae
open Go
/-! ### Division by one limb -/
theorem short_step {A d i t:Nat} (hd:0 < d) (ht:t=A / B ^ (i+1) % d*B+limb A i) :
  A / B ^ i % d=t % d∧A / B ^ i / d=A / B ^ (i+1) / d*B+t / d:=by
 have h:=div_succ A i
 have h2:=Nat.mod_add_div (A / B ^ (i+1)) d
 have e:A / B ^ i=t+d*(A / B ^ (i+1) / d*B):=by
  rw [h,ht]
  have:B*(A / B ^ (i+1))=B*(A / B ^ (i+1) % d)+d*(A / B ^ (i+1) / d*B):=by
   conv=>lhs; rw [← h2]
   rw [Nat.mul_add,Nat.mul_comm (A / B ^ (i+1) / d) B,Nat.mul_left_comm]
  rw [this,Nat.mul_comm B (A / B ^ (i+1) % d)]
  omega
 constructor
 ·rw [e,Nat.add_mul_mod_self_left]
 ·rw [e,Nat.add_mul_div_left _ _ hd]; omega
theorem limb_mul_pow (K i:Nat):limb (K*B ^ (i+1)) i=0:=by
 unfold limb
 rw [Nat.pow_succ,Nat.mul_comm (B ^ i),← Nat.mul_assoc,Nat.mul_div_cancel _ (Bpos i)]
 exact Nat.mul_mod_left _ _
theorem setLimb_of_zero {Y i d:Nat} (h:limb Y i=0):setLimb Y i d=Y+d*B ^ i:=by
 have:=setLimb_num Y i d
 rw [h] at this
 omega
theorem short_set {A d i t:Nat} (hd:0 < d) (ht:t=A / B ^ (i+1) % d*B+limb A i):setLimb (A / B ^ (i+1) / d*B ^ (i+1)) i (t / d)=A / B ^ i / d*B ^ i:=by
 rw [setLimb_of_zero (limb_mul_pow _ _),(short_step hd ht).2,Nat.pow_succ,Nat.add_mul,Nat.mul_assoc,Nat.mul_comm B]
theorem short_lt {A d i t:Nat} (hd:0 < d) (ht:t=A / B ^ (i+1) % d*B+limb A i):t / d < B:=by
 have h1:=Nat.mod_lt (A / B ^ (i+1)) hd
 have h2:=limb_lt A i
 refine (Nat.div_lt_iff_lt_mul hd).2 ?_
 have h3:(A / B ^ (i+1) % d+1)*B≤d*B:=Nat.mul_le_mul_right _ h1
 rw [Nat.mul_comm d B] at h3
 rw [Nat.add_mul] at h3
 omega
/-! ### Shifts -/
theorem two_le_B {s:Nat} (h:s≤31):2 ^ s≤2147483648:=Nat.le_trans (Nat.pow_le_pow_right (by decide) h) (by decide:2 ^ 31≤2147483648)
theorem shl_u64 {s l:Nat} (hs:s≤31) (hl:l < B):IntKind.u64.wrap ((l:Int)*2 ^ min s IntKind.u64.bits)=((l*2 ^ s:Nat):Int):=by
 have h:=two_le_B hs
 have e:min s IntKind.u64.bits=s:=by show min s 64=s; omega
 rw [e]
 have h2:l*2 ^ s≤4294967296*2147483648:=Nat.mul_le_mul (Nat.le_of_lt hl) h
 have:((l*2 ^ s:Nat):Int)=(l:Int)*2 ^ s:=by simp
 rw [← this,wrapu64 (by omega) (by omega)]
theorem shr_u64 {s l:Nat} (hs:s≤31):(l:Int).fdiv (2 ^ min s IntKind.u64.bits)=((l / 2 ^ s:Nat):Int):=by
 have e:min s IntKind.u64.bits=s:=by show min s 64=s; omega
 rw [e,fdivp]
 simp
theorem or_u32 {u l s:Nat} (hs:s≤31) (hu:u < 2 ^ s):IntKind.u32.wrap ((BitVec.ofInt IntKind.u32.bits (u:Int) ||| BitVec.ofInt IntKind.u32.bits ((l*2 ^ s % B:Nat):Int)).toNat:Int)=((u+l*2 ^ s % B:Nat):Int):=by
 have h:=two_le_B hs
 have hv:l*2 ^ s % B < 4294967296:=Nat.mod_lt _ (by decide)
 have e:l*2 ^ s % B=(l % 2 ^ (32 - s))*2 ^ s:=by
  have:B=2 ^ (32 - s)*2 ^ s:=by rw [← Nat.pow_add,show 32 - s+s=32 by omega]
  rw [this,Nat.mul_mod_mul_right]
 have key:IntKind.u32.wrap ((BitVec.ofInt 32 (u:Int) ||| BitVec.ofInt 32 ((l*2 ^ s % B:Nat):Int)).toNat:Int)=((u+l*2 ^ s % B:Nat):Int):=by
  rw [wrap32_bv,BitVec.toNat_or,toNat_ofInt32 _ (by omega),toNat_ofInt32 _ hv,e,or_add _ _ _ hu]
 exact key
theorem or_lt {u l s:Nat} (hs:s≤31) (hu:u < 2 ^ s):u+l*2 ^ s % B < B:=by
 have h:=two_le_B hs
 have hv:l*2 ^ s % B < 2 ^ 32:=Nat.mod_lt _ (by decide)
 have e:l*2 ^ s % B=(l % 2 ^ (32 - s))*2 ^ s:=by
  have:B=2 ^ (32 - s)*2 ^ s:=by rw [← Nat.pow_add,show 32 - s+s=32 by omega]
  rw [this,Nat.mul_mod_mul_right]
 rw [e] at hv ⊢
 rw [← or_add _ _ _ hu]
 exact Nat.or_lt_two_pow (n:=32) (Nat.lt_of_lt_of_le hu (by omega)) hv
theorem shift_limb {A s i:Nat}:limb (A % B ^ i*2 ^ s) i < 2 ^ s:=by
 refine Nat.lt_of_le_of_lt (Nat.mod_le _ _) ?_
 refine (Nat.div_lt_iff_lt_mul (Bpos i)).2 ?_
 rw [Nat.mul_comm]
 exact Nat.mul_lt_mul_of_pos_left (Nat.mod_lt _ (Bpos i)) (Nat.pow_pos (by decide))
theorem shift_lt {A s i:Nat} (hs:s≤31):A % B ^ i*2 ^ s < B ^ (i+1):=by
 have h:=two_le_B hs
 rw [Nat.pow_succ]
 exact Nat.mul_lt_mul_of_lt_of_le (Nat.mod_lt _ (Bpos i)) (by show _≤4294967296; omega) (by decide)
theorem shift_step {A s i:Nat} (hs:s≤31):setLimb (setLimb (A % B ^ i*2 ^ s) i (limb (A % B ^ i*2 ^ s) i+limb A i*2 ^ s % B)) (i+1) (limb A i*2 ^ s / B)=A % B ^ (i+1)*2 ^ s:=by
 have hlt:=shift_lt (A:=A) (i:=i) hs
 have hor:=or_lt (l:=limb A i) hs (shift_limb (A:=A) (s:=s) (i:=i))
 have h1:=setLimb_num (A % B ^ i*2 ^ s) i (limb (A % B ^ i*2 ^ s) i+limb A i*2 ^ s % B)
 rw [Nat.add_mul] at h1
 have e1:setLimb (A % B ^ i*2 ^ s) i (limb (A % B ^ i*2 ^ s) i+limb A i*2 ^ s % B)=A % B ^ i*2 ^ s+limb A i*2 ^ s % B*B ^ i:=by omega
 have h2:limb (setLimb (A % B ^ i*2 ^ s) i (limb (A % B ^ i*2 ^ s) i+limb A i*2 ^ s % B)) (i+1)=0:=by
  rw [limb_set hor,if_neg (by omega)]
  exact limb_top hlt (Nat.le_refl _)
 rw [setLimb_of_zero h2,e1,mod_succ,Nat.add_mul,Nat.pow_succ]
 have h3:=Nat.mod_add_div (limb A i*2 ^ s) B
 have h4:limb A i*B ^ i*2 ^ s=(limb A i*2 ^ s % B+B*(limb A i*2 ^ s / B))*B ^ i:=by rw [h3,Nat.mul_right_comm]
 rw [h4,Nat.add_mul,Nat.add_assoc]
 congr 1
 rw [Nat.mul_comm (B ^ i) B,← Nat.mul_assoc,Nat.mul_comm B (limb A i*2 ^ s / B)]
/-- A limb of a number shifted down. -/
theorem unshift_limb {A s i:Nat} (hs:s≤31):limb (A / 2 ^ s) i=(limb A i+limb A (i+1)*B) / 2 ^ s % B:=by
 obtain ⟨w,hw⟩:∃ w,w=limb A i+limb A (i+1)*B:=⟨_,rfl⟩
 have e:A / B ^ i=w+(B*B)*(A / B ^ (i+1+1)):=by
  rw [div_succ A i,div_succ A (i+1),Nat.mul_add,Nat.mul_comm B (limb A (i+1)),Nat.mul_assoc,hw,← Nat.add_assoc]
 rw [← hw]
 show A / 2 ^ s / B ^ i % B=_
 rw [Nat.div_div_eq_div_mul,Nat.mul_comm (2 ^ s),← Nat.div_div_eq_div_mul,e]
 have hB:B=2 ^ s*2 ^ (32 - s):=by rw [← Nat.pow_add,show s+(32 - s)=32 by omega]
 have:B*B*(A / B ^ (i+1+1))=2 ^ s*(B*(2 ^ (32 - s)*(A / B ^ (i+1+1)))):=by
  conv=>lhs; rw [Nat.mul_assoc]; lhs; rw [hB]
  rw [Nat.mul_assoc,Nat.mul_left_comm (2 ^ (32 - s)) B]
 rw [this,Nat.add_mul_div_left _ _ (Nat.pow_pos (by decide)),Nat.add_mul_mod_self_left]
theorem or_word2 {x y:Nat} (hx:x < 4294967296) (hy:y < 4294967296):IntKind.u64.wrap ((BitVec.ofInt IntKind.u64.bits (y:Int) ||| BitVec.ofInt IntKind.u64.bits ((x:Int)*4294967296)).toNat:Int)=((y+x*B:Nat):Int):=by
 rw [BitVec.or_comm,or_word' x y hx hy]
 show _=(((y+x*4294967296:Nat)):Int)
 omega
/-! ### The digit of a long division -/
theorem knuth_low {W D P q:Nat} (hD:0 < D) (hP:0 < P) (h:W / P < q*(D / P)):W / D < q:=by
 refine (Nat.div_lt_iff_lt_mul hD).2 ?_
 have h1:W < (W / P+1)*P:=by
  rw [Nat.mul_comm]; exact Nat.lt_mul_div_succ W hP
 have h2:(W / P+1)*P≤q*(D / P)*P:=Nat.mul_le_mul_right _ h
 have h3:q*(D / P)*P≤q*D:=by
  rw [Nat.mul_assoc]; exact Nat.mul_le_mul_left _ (Nat.div_mul_le_self _ _)
 omega
theorem knuth_high {W D P q K:Nat} (hP:0 < P) (h:q*(D / P)≤W / P) (hq:q≤K) (hK:K*P≤D):q≤W / D+1:=by
 rcases Nat.eq_zero_or_pos q with h0 | h0
 ·rw [h0]; exact Nat.zero_le _
 by_cases hD:D=0
 ·have hK0:K*P=0:=by omega
  rcases Nat.mul_eq_zero.1 hK0 with h | h <;> omega
 have h1:D < (D / P+1)*P:=by
  rw [Nat.mul_comm]; exact Nat.lt_mul_div_succ D hP
 have h2:q*D < q*((D / P+1)*P):=Nat.mul_lt_mul_of_pos_left h1 h0
 have e2:q*((D / P+1)*P)=q*(D / P)*P+q*P:=by rw [Nat.add_mul,Nat.mul_add,Nat.one_mul,Nat.mul_assoc]
 have h3:q*(D / P)*P≤W / P*P:=Nat.mul_le_mul_right _ h
 have h4:W / P*P≤W:=Nat.div_mul_le_self _ _
 have h5:q*P≤K*P:=Nat.mul_le_mul_right _ hq
 have h6:q*D < W+D:=by omega
 have h7:(q - 1)*D≤W:=by
  rw [Nat.sub_mul,Nat.one_mul]; omega
 have:=(Nat.le_div_iff_mul_le (by omega:0 < D)).2 h7
 omega
/-- The window of the dividend. -/
theorem limb_div (X j k:Nat):limb (X / B ^ j) k=limb X (j+k):=by
 unfold limb
 rw [Nat.div_div_eq_div_mul,← Nat.pow_add]
theorem limb_hi {W k:Nat} (h:W < B ^ (k+1)):limb W k=W / B ^ k:=by
 unfold limb
 refine Nat.mod_eq_of_lt ((Nat.div_lt_iff_lt_mul (Bpos k)).2 ?_)
 rw [Nat.mul_comm,← Nat.pow_succ]; exact h
/-- The first two limbs, and the first three. -/
theorem top2 {W k:Nat} (h:W < B ^ (k+2)):W / B ^ k=limb W (k+1)*B+limb W k:=by
 rw [div_succ W k,← limb_hi h,Nat.mul_comm,Nat.add_comm]
theorem estimate {q d1 d0 r w0 K top:Nat} (he:q*d1+r=top):(q*(d1*K+d0)≤top*K+w0↔q*d0≤r*K+w0):=by
 have e:top*K=q*(d1*K)+r*K:=by rw [← he,Nat.add_mul,Nat.mul_assoc]
 rw [Nat.mul_add,e]
 omega
/-- The product is taken away, limb by limb. -/
theorem away_arith {Z Z' v P l d t low c' c b b' x q X v' K:Nat} (he:Z+v=X+(b+c)*P) (hs:Z'+l*P=Z+d*P) (ht:t=c+q*x) (ht2:t=low+K*c') (hd:l+b'*K=low+b+d) (hv:v'=v+q*x*P) :
  Z'+v'=X+(b'+c')*(P*K):=by
 have e1:t*P=c*P+q*x*P:=by rw [ht,Nat.add_mul]
 have e2:t*P=low*P+c'*(P*K):=by rw [ht2,Nat.add_mul,Nat.mul_comm K,Nat.mul_assoc,Nat.mul_comm K P]
 have e3:l*P+b'*(P*K)=low*P+b*P+d*P:=by
  have:=congrArg (·*P) hd
  simp only [Nat.add_mul] at this
  rw [Nat.mul_assoc b' K P,Nat.mul_comm K P] at this
  exact this
 rw [Nat.add_mul] at he ⊢
 omega
theorem away_step {X Z D q c b b' i j t d:Nat} (he:Z+q*(D % B ^ i)*B ^ j=X+(b+c)*B ^ (j+i)) (ht:t=c+q*limb D i) (hd:limb Z (j+i)+b'*B=t % B+b+d) :
  setLimb Z (j+i) d+q*(D % B ^ (i+1))*B ^ j=X+(b'+t / B)*B ^ (j+(i+1)):=by
 have ep:B ^ (j+(i+1))=B ^ (j+i)*B:=rfl
 rw [ep]
 refine away_arith he (setLimb_num Z (j+i) d) ht (Nat.mod_add_div t B).symm hd ?_
 rw [mod_succ,Nat.mul_add,Nat.add_mul,Nat.pow_add,← Nat.mul_assoc q (limb D i),Nat.mul_comm (B ^ j) (B ^ i),Nat.mul_assoc (q*limb D i)]
theorem away_last {X Z D q c b b' n j d:Nat} (hD:D < B ^ n) (hc:c < B) (he:Z+q*(D % B ^ n)*B ^ j=X+(b+c)*B ^ (j+n)) (hd:limb Z (j+n)+b'*B=c+b+d) :
  setLimb Z (j+n) d+q*(D*B ^ j)=X+b'*B ^ (j+n+1):=by
 rw [Nat.mod_eq_of_lt hD] at he
 have:=away_arith (K:=B) (x:=0) (t:=c) (c':=0) (low:=c) (q:=q) (v':=q*D*B ^ j) he (setLimb_num Z (j+n) d) (by omega) (by omega) hd (by omega)
 rw [← Nat.mul_assoc,this,Nat.pow_succ]
 rfl
/-- The divisor is given back, limb by limb. -/
theorem back_arith {Z Z' v P l c x t Y v' K:Nat} (he:Z+c*P=Y+v) (hs:Z'+l*P=Z+t % K*P) (ht:t=l+x+c) (hv:v'=v+x*P):Z'+t / K*(P*K)=Y+v':=by
 have h:=Nat.mod_add_div t K
 have e1:t*P=t % K*P+t / K*(P*K):=by
  calc t*P=(t % K+K*(t / K))*P:=by rw [h]
   _=t % K*P+t / K*(P*K):=by rw [Nat.add_mul,Nat.mul_comm K,Nat.mul_assoc,Nat.mul_comm K P]
 have e2:t*P=l*P+x*P+c*P:=by rw [ht,Nat.add_mul,Nat.add_mul]
 omega
theorem back_step {Y Z D c i j t:Nat} (he:Z+c*B ^ (j+i)=Y+D % B ^ i*B ^ j) (ht:t=limb Z (j+i)+limb D i+c) :
  setLimb Z (j+i) (t % B)+t / B*B ^ (j+(i+1))=Y+D % B ^ (i+1)*B ^ j:=by
 have ep:B ^ (j+(i+1))=B ^ (j+i)*B:=rfl
 rw [ep]
 refine back_arith he (setLimb_num Z (j+i) (t % B)) ht ?_
 rw [mod_succ,Nat.add_mul,Nat.pow_add,Nat.mul_comm (B ^ j),Nat.mul_assoc]
/-- No borrow is left: the estimate was right. -/
theorem right_guess {X Z E q:Nat} (hE:0 < E) (h:Z+q*E=X) (hq:X / E≤q):q=X / E∧Z=X % E:=by
 have h1:q≤X / E:=(Nat.le_div_iff_mul_le hE).2 (by omega)
 have h2:q=X / E:=by omega
 refine ⟨h2,?_⟩
 have:=Nat.mod_add_div X E
 rw [h2,Nat.mul_comm] at h
 omega
/-- A borrow is left: the estimate was one too large. -/
theorem large_guess {X Z E q M:Nat} (hE:0 < E) (h:Z+q*E=X+M) (hZ:Z < M) (hq:q≤X / E+1):q=X / E+1∧Z+E=X % E+M:=by
 have h1:X < q*E:=by omega
 have h2:X / E < q:=(Nat.div_lt_iff_lt_mul hE).2 h1
 have h3:q=X / E+1:=by omega
 refine ⟨h3,?_⟩
 have:=Nat.mod_add_div X E
 rw [h3,Nat.add_mul,Nat.one_mul,Nat.mul_comm] at h
 omega
theorem back_last {V R c k:Nat} (hV:V < B ^ (k+1)) (hR:R < B ^ k) (hc:c≤1) (h:V+c*B ^ k=R+B ^ (k+1)):setLimb V k ((limb V k+c) % B)=R:=by
 have hc1:c=1:=by
  rcases Nat.eq_zero_or_pos c with h0 | h0
  ·subst h0; omega
  ·omega
 subst hc1
 have e:V=R+(B - 1)*B ^ k:=by
  rw [Nat.pow_succ,Nat.mul_comm (B ^ k) B] at h
  rw [Nat.sub_mul]
  have:1*B ^ k≤B*B ^ k:=Nat.mul_le_mul_right _ (by decide)
  omega
 have e2:limb V k=B - 1:=by
  rw [limb_hi hV,e,Nat.add_mul_div_right _ _ (Bpos k),Nat.div_eq_of_lt hR,Nat.zero_add]
 have h2:=setLimb_num V k ((limb V k+1) % B)
 have e3:(B - 1+1) % B=0:=by decide
 rw [e2,e3] at h2
 rw [e2,e3]
 omega
theorem digit_facts {X D j n n1 n2:Nat} (h2:n2=nl D) (h0:n2=n+2) (h1:n1=n+1) (hd:2147483648≤limb D n1) (hX:X < D*B ^ (j+1)) :
  X / B ^ j / B ^ n=(limb X (j+n2)*B+limb X (j+n1))*B+limb X (j+n)∧D / B ^ n=limb D n1*B+limb D n∧X / B ^ j / D < B∧B*B ^ n≤D ∧
  X / B ^ j / D≤(limb X (j+n2)*B+limb X (j+n1)) / limb D n1∧(limb X (j+n2)*B+limb X (j+n1)) / limb D n1≤B+1∧X < B ^ (j+n2+1):=by
 subst h1
 have hD:D < B ^ (n+2):=by have:=lt_nl D; rw [← h2,h0] at this; exact this
 have hDh:=limb_hi (W:=D) (k:=n+1) hD
 have hD0:0 < D:=by
  rcases Nat.eq_zero_or_pos D with h | h
  ·subst h; rw [limb_zero] at hd; omega
  ·exact h
 have hW:X / B ^ j < D*B:=by
  refine (Nat.div_lt_iff_lt_mul (Bpos j)).2 ?_
  rw [Nat.mul_assoc,Nat.mul_comm B,← Nat.pow_succ]; exact hX
 have hW3:X / B ^ j < B ^ (n+1+2):=by
  have e:B ^ (n+1+2)=B ^ (n+2)*B:=rfl
  rw [e]
  exact Nat.lt_of_lt_of_le hW (Nat.mul_le_mul_right _ (Nat.le_of_lt hD))
 have ht:=top2 hW3
 rw [limb_div,limb_div] at ht
 have ht2:X / B ^ j / B ^ (n+1)=limb X (j+n2)*B+limb X (j+(n+1)):=by rw [h0]; exact ht
 obtain ⟨top,htop⟩:∃ top,top=limb X (j+n2)*B+limb X (j+(n+1)):=⟨_,rfl⟩
 rw [← htop] at ht2 ⊢
 have hw:=div_succ (X / B ^ j) n
 rw [ht2,limb_div] at hw
 have hdd:=div_succ D n
 rw [← hDh] at hdd
 obtain ⟨W,hWd⟩:∃ W,W=X / B ^ j:=⟨_,rfl⟩
 obtain ⟨d1,hd1⟩:∃ d1,d1=limb D (n+1):=⟨_,rfl⟩
 rw [← hWd] at hw ht2 hW ⊢
 rw [← hd1] at hdd hd hDh ⊢
 have hb1:d1*B ^ (n+1)≤D:=by rw [hDh]; exact Nat.div_mul_le_self _ _
 have hb2:D < (d1+1)*B ^ (n+1):=by rw [hDh,Nat.mul_comm]; exact Nat.lt_mul_div_succ _ (Bpos _)
 refine ⟨?_,?_,?_,?_,?_,?_,?_⟩
 ·rw [hw,Nat.mul_comm B top,Nat.add_comm]
 ·rw [hdd,Nat.mul_comm B d1,Nat.add_comm]
 ·exact (Nat.div_lt_iff_lt_mul hD0).2 (by rw [Nat.mul_comm]; exact hW)
 ·have e:B*B ^ n=1*B ^ (n+1):=by rw [Nat.pow_succ,Nat.mul_comm,Nat.one_mul]
  rw [e]
  exact Nat.le_trans (Nat.mul_le_mul_right _ (by omega)) hb1
 ·refine (Nat.le_div_iff_mul_le (by omega)).2 ?_
  rw [← ht2]
  refine (Nat.le_div_iff_mul_le (Bpos _)).2 ?_
  rw [Nat.mul_assoc]
  exact Nat.le_trans (Nat.mul_le_mul_left _ hb1) (Nat.div_mul_le_self _ _)
 ·have h5:top < (d1+1)*B:=by
   rw [← ht2]
   refine (Nat.div_lt_iff_lt_mul (Bpos _)).2 ?_
   have:D*B≤(d1+1)*B ^ (n+1)*B:=Nat.mul_le_mul_right _ (Nat.le_of_lt hb2)
   rw [Nat.mul_right_comm] at this
   exact Nat.lt_of_lt_of_le hW this
  have h6:top / d1 < B+2:=by
   refine (Nat.div_lt_iff_lt_mul (by omega)).2 ?_
   rw [Nat.add_mul,Nat.mul_comm B d1]
   rw [Nat.add_mul] at h5
   have:B=4294967296:=rfl
   omega
  omega
 ·have e:B ^ (j+n2+1)=B ^ (n+2)*B ^ (j+1):=by rw [← Nat.pow_add]; congr 1; omega
  rw [e]
  exact Nat.lt_of_lt_of_le hX (Nat.mul_le_mul_right _ (Nat.le_of_lt hD))
/-- What is known of a digit: kept from omega's eyes. -/
structure DigitF (X D j n n2 top d1 d0 w0 Q q0:Nat):Prop where
 fW:X / B ^ j / B ^ n=top*B+w0
 fD:D / B ^ n=d1*B+d0
 fQ:Q=X / B ^ j / D
 fB:Q < 4294967296
 fP:B*B ^ n≤D
 fq:Q≤q0
 fq2:q0≤4294967297
 fX:X < B ^ (j+n2+1)
 fD0:0 < D
theorem digitF {X D j n n1 n2 top d1 d0 w0 Q q0:Nat} (h2:n2=nl D) (h0:n2=n+2) (h1:n1=n+1) (hd:2147483648≤limb D n1) (hX:X < D*B ^ (j+1))
  (ht:top=limb X (j+n2)*4294967296+limb X (j+n1)) (hd1:d1=limb D n1) (hd0:d0=limb D n) (hw:w0=limb X (j+n)) (hQ:Q=X / B ^ j / D) (hq0:q0=top / d1):DigitF X D j n n2 top d1 d0 w0 Q q0:=by
 have hD0:0 < D:=by
  rcases Nat.eq_zero_or_pos D with h | h
  ·rw [h,limb_zero] at hd; omega
  ·exact h
 subst ht hd1 hd0 hw hQ hq0
 obtain ⟨a,b,c,d,e,f,g⟩:=digit_facts h2 h0 h1 hd hX
 exact ⟨a,b,rfl,c,d,e,f,g,hD0⟩
/-- The loop over the estimate: one less. -/
theorem est_down {W D P d1 d0 q r w0 top:Nat} (hD:0 < D) (hP:0 < P) (hW:W / P=top*B+w0) (hDP:D / P=d1*B+d0) (he:q*d1+r=top) (h:r*B+w0 < q*d0):W / D < q:=by
 refine knuth_low hD hP ?_
 rw [hW,hDP]
 exact Nat.lt_of_not_le fun hle=>Nat.not_le_of_lt h ((estimate he).1 hle)
/-- The loop ends. -/
theorem est_end {W D P d1 d0 q r w0 top:Nat} (hP:0 < P) (hW:W / P=top*B+w0) (hDP:D / P=d1*B+d0) (he:q*d1+r=top) (hq:q < B) (hK:B*P≤D) (hd0:d0 < B) (h:B≤r∨q*d0≤r*B+w0):q≤W / D+1:=by
 refine knuth_high hP ?_ (Nat.le_of_lt hq) hK
 rw [hW,hDP]
 refine (estimate he).2 ?_
 rcases h with h | h
 ·have h1:q*d0≤B*B:=Nat.mul_le_mul (Nat.le_of_lt hq) (Nat.le_of_lt hd0)
  have h2:B*B≤r*B:=Nat.mul_le_mul_right _ h
  omega
 ·exact h
theorem tdiv_nat (a b:Nat):Int.tdiv (a:Int) (b:Int)=((a / b:Nat):Int):=rfl
theorem tmod_nat (a b:Nat):Int.tmod (a:Int) (b:Int)=((a % b:Nat):Int):=rfl
theorem mul64 {q x:Nat} (hq:q≤4294967297) (hx:x < 4294967296):IntKind.u64.wrap ((q:Int)*(x:Int))=((q*x:Nat):Int)∧q*x < 18446744073709551616:=by
 have h:=Nat.mul_le_mul hq (show x≤4294967295 by omega)
 have e:((q:Int)*(x:Int))=((q*x:Nat):Int):=by simp
 obtain ⟨p,hp⟩:∃ p,p=q*x:=⟨_,rfl⟩
 rw [e,← hp]
 rw [← hp] at h
 exact ⟨wrapu64 (by omega) (by omega),by omega⟩
theorem muladd64 {c q x t:Nat} (hc:c < B) (hq:q < B) (hx:x < B) (ht:t=c+q*x):IntKind.u64.wrap ((c:Int)+IntKind.u64.wrap ((q:Int)*(x:Int)))=(t:Int)∧t / B < B:=by
 have hB:B=4294967296:=rfl
 have h:=Nat.mul_le_mul (show q≤4294967295 by omega) (show x≤4294967295 by omega)
 have e:((q:Int)*(x:Int))=((q*x:Nat):Int):=by simp
 obtain ⟨p,hp⟩:∃ p,p=q*x:=⟨_,rfl⟩
 rw [e,← hp]
 rw [← hp] at h ht
 constructor
 ·rw [wrapu64 (x:=(p:Int)) (by omega) (by omega),wrapu64 (by omega) (by omega),ht]; omega
 ·refine (Nat.div_lt_iff_lt_mul (by decide)).2 ?_
  rw [hB,ht]; omega
end Go.Ae
/- Contracts of bigint's division, in terms of numbers. -/
namespace Go.Ae
open Go
def one (A ca:Nat):Value:=.slice (some ⟨0,0,none⟩) (nl A) ca
abbrev I1:=Nat × Nat × Nat
def shortS:QSpec:={ ι:=I1,args:=fun i=>[one i.1 i.2.1,.int .u32 i.2.2],blks:=fun i=>[newB i.1],pre:=fun i=>nl i.1≤137438953472∧0 < i.2.2∧i.2.2 < 4294967296,val:=fun i=>.tuple ⟨[newN 1 (i.1 / i.2.2),.int .u32 (i.1 % i.2.2:Nat)]⟩,new:=fun i=>some (.flat true (nl i.1) 1 (limbRow (i.1 / i.2.2))) }
def shiftS:QSpec:={ ι:=I1,args:=fun i=>[one i.1 i.2.1,.int .i64 i.2.2],blks:=fun i=>[newB i.1],pre:=fun i=>nl i.1≤137438953472∧i.2.2≤31,val:=fun i=>.slice (some ⟨1,0,none⟩) (nl i.1+1) (nl i.1+1),new:=fun i=>some (.flat true (nl i.1+1) 1 (limbRow (i.1*2 ^ i.2.2))) }
def unshiftS:QSpec:={ ι:=I1,args:=fun i=>[one i.1 i.2.1,.int .i64 i.2.2],blks:=fun i=>[newB i.1],pre:=fun i=>nl i.1≤137438953472∧i.2.2≤31,val:=fun i=>newN 1 (i.1 / 2 ^ i.2.2),new:=fun i=>some (.flat true (nl i.1) 1 (limbRow (i.1 / 2 ^ i.2.2))) }
/-- One digit of a long division: the dividend's window is changed in its place. -/
structure DI where
 (X m cx D cd j:Nat)
def digitS:WSpec:={ ι:=DI,args:=fun i=>[.slice (some ⟨0,0,none⟩) i.m i.cx,.slice (some ⟨1,0,none⟩) (nl i.D) i.cd,.int .i64 i.j],blks:=fun i=>[.flat true i.m 1 (limbRow i.X),newB i.D],pre:=fun i=>i.m≤137438953473∧2≤nl i.D∧2147483648≤limb i.D (nl i.D - 1)∧i.j+nl i.D < i.m∧i.X < i.D*B ^ (i.j+1),val:=fun i=>.int .u32 (i.X / (i.D*B ^ i.j):Nat),post:=fun i=>[.flat true i.m 1 (limbRow (i.X % (i.D*B ^ i.j))),newB i.D],new:=fun _=>[] }
theorem wres_digit {i:DI} {N q:Nat} {H:Heap} (h1:N=i.X % (i.D*B ^ i.j)) (h2:q=i.X / (i.D*B ^ i.j)) (hH:H[0]?=some (some (.flat true i.m 1 (limbRow N)))):wRes digitS i (.int .u32 (q:Nat)) H:=by
 refine ⟨[],List.nodup_nil,by simp,rfl,fun j b q' hb hq ho=>?_,by simp,_,rfl,by subst h2; exact .refl _⟩
 match j with
 | 0 =>
  simp [digitS] at hb hq
  subst hq
  exact ⟨_,hH,rfl,by rw [h1]; exact ⟨fun _=>⟨rfl,rfl⟩,rfl,Nat.le_refl _,fun _ _=>rfl,fun r hr v hv=>allS_spec (l:=limbRow _ r) rfl v hv⟩⟩
 | 1 =>
  simp [digitS] at hb
  subst hb
  cases ho
 | j+2=>simp [digitS] at hb
def divideS:WSpec:={ ι:=I2,args:=fun i=>two i.1 i.2.1 i.2.2.1 i.2.2.2,blks:=fun i=>blk2 i.1 i.2.2.1,pre:=fun i=>small2 i∧i.2.2.1≠0,val:=fun i=>if i.1 < i.2.2.1 then .tuple ⟨[.slice none 0 0,one i.1 i.2.1]⟩ else .tuple ⟨[newN 2 (i.1 / i.2.2.1),newN 3 (i.1 % i.2.2.1)]⟩,post:=fun i=>blk2 i.1 i.2.2.1,new:=fun i=>if i.1 < i.2.2.1 then [] else [newB (i.1 / i.2.2.1),newB (i.1 % i.2.2.1)] }
end Go.Ae
/- Laws of limbs: the long division as a whole. -/
namespace Go.Ae
open Go
/-- The divisor, shifted so that its top limb is at least half the base. -/
theorem norm_facts {D n s:Nat} (hn:nl D=n+1) (hs:s=32 - blen (limb D n)) :
  s≤31∧limb D n≠0∧nl (D*2 ^ s)=n+1∧2147483648≤limb (D*2 ^ s) n∧2147483648*B ^ n≤D*2 ^ s:=by
 have hD0:D≠0:=by intro h; rw [h,nl_zero] at hn; omega
 have htop:limb D n≠0:=by have:=top_limb hD0; rw [hn] at this; exact this
 obtain ⟨x,hx⟩:∃ x,x=limb D n:=⟨_,rfl⟩
 rw [← hx] at hs htop ⊢
 have hxB:x < 4294967296:=by rw [hx]; exact limb_lt D n
 have hb:=blen_u32 hxB
 have hb1:1≤blen x:=by
  rcases Nat.eq_zero_or_pos (blen x) with h | h
  ·have:=lt_blen x; rw [h] at this; omega
  ·exact h
 have hlt:=lt_nl D
 rw [hn] at hlt
 have hxd:x=D / B ^ n:=by rw [hx]; exact limb_hi hlt
 have h1:=pow_le_of_blen htop
 have h2:=lt_blen x
 have e:2 ^ (blen x)*2 ^ s=4294967296:=by rw [← Nat.pow_add,show blen x+s=32 by omega]
 have e2:2 ^ (blen x - 1)*2 ^ s=2147483648:=by rw [← Nat.pow_add,show blen x - 1+s=31 by omega]
 have hlo:2147483648*B ^ n≤D*2 ^ s:=by
  rw [← e2,Nat.mul_right_comm]
  refine Nat.mul_le_mul_right _ ?_
  refine Nat.le_trans (Nat.mul_le_mul_right _ h1) ?_
  rw [hxd]; exact Nat.div_mul_le_self _ _
 have hhi:D*2 ^ s < B ^ (n+1):=by
  have h3:D < (x+1)*B ^ n:=by rw [hxd,Nat.mul_comm]; exact Nat.lt_mul_div_succ _ (Bpos n)
  have h4:D*2 ^ s < (x+1)*B ^ n*2 ^ s:=Nat.mul_lt_mul_of_pos_right h3 (Nat.pow_pos (by decide))
  have h5:(x+1)*B ^ n*2 ^ s≤2 ^ blen x*B ^ n*2 ^ s:=Nat.mul_le_mul_right _ (Nat.mul_le_mul_right _ h2)
  rw [Nat.mul_right_comm (2 ^ blen x),e] at h5
  have e3:B ^ (n+1)=4294967296*B ^ n:=by rw [Nat.pow_succ,Nat.mul_comm]
  rw [e3]
  exact Nat.lt_of_lt_of_le h4 h5
 have hnl:nl (D*2 ^ s)=n+1:=by
  refine nl_eq' hhi (.inr ?_)
  rw [Nat.add_sub_cancel]
  refine Nat.le_trans ?_ hlo
  exact Nat.le_mul_of_pos_left _ (by decide)
 refine ⟨by omega,htop,hnl,?_,hlo⟩
 rw [limb_hi hhi]
 exact (Nat.le_div_iff_mul_le (Bpos n)).2 hlo
theorem shift_nl_lt {A s:Nat} (hs:s≤31):A*2 ^ s < B ^ (nl A)*2147483648:=by
 have h:=two_le_B hs
 exact Nat.mul_lt_mul_of_lt_of_le (lt_nl A) h (by decide)
/-- The dividend before the first digit. -/
theorem div_start {A E n s k:Nat} (hs:s≤31) (hlo:2147483648*B ^ n≤E) (hk:k=nl A - n) (hle:n≤nl A):A*2 ^ s < E*B ^ k:=by
 refine Nat.lt_of_lt_of_le (shift_nl_lt hs) ?_
 have e:B ^ nl A*2147483648=2147483648*B ^ n*B ^ k:=by
  rw [Nat.mul_assoc,← Nat.pow_add,show n+k=nl A by omega,Nat.mul_comm]
 rw [e]
 exact Nat.mul_le_mul_right _ hlo
/-- One digit more. -/
theorem div_digit {V E Q U i:Nat} (hE:0 < E) (h:Q*E+U=V) (hU:U < E*B ^ (i+1)) (hQ:Q % B ^ (i+1)=0) :
  U / (E*B ^ i) < B∧setLimb Q i (U / (E*B ^ i))*E+U % (E*B ^ i)=V∧U % (E*B ^ i) < E*B ^ i∧setLimb Q i (U / (E*B ^ i)) % B ^ i=0:=by
 have hP:0 < E*B ^ i:=Nat.mul_pos hE (Bpos i)
 have hd:U / (E*B ^ i) < B:=by
  refine (Nat.div_lt_iff_lt_mul hP).2 ?_
  rw [Nat.mul_comm,Nat.mul_assoc,← Nat.pow_succ]; exact hU
 obtain ⟨K,hK⟩:∃ K,Q=K*B ^ (i+1):=⟨Q / B ^ (i+1),by rw [Nat.mul_comm]; have:=Nat.mod_add_div Q (B ^ (i+1)); rw [hQ,Nat.zero_add] at this; exact this.symm⟩
 have hl:limb Q i=0:=by rw [hK]; exact limb_mul_pow K i
 rw [setLimb_of_zero hl]
 refine ⟨hd,?_,Nat.mod_lt _ hP,?_⟩
 ·rw [Nat.add_mul,← h,Nat.add_assoc]
  congr 1
  rw [Nat.mul_assoc,Nat.mul_comm (B ^ i) E,Nat.mul_comm]
  exact Nat.div_add_mod U (E*B ^ i)
 ·rw [hK,Nat.pow_succ,Nat.mul_comm (B ^ i) B,← Nat.mul_assoc,← Nat.add_mul]
  exact Nat.mul_mod_left _ _
/-- The digits are all there. -/
theorem div_done {A D s Q U:Nat} (hD:0 < D) (h:Q*(D*2 ^ s)+U=A*2 ^ s) (hU:U < D*2 ^ s):Q=A / D∧U=A % D*2 ^ s∧U / 2 ^ s=A % D:=by
 have hs:0 < 2 ^ s:=Nat.pow_pos (by decide)
 have hE:0 < D*2 ^ s:=Nat.mul_pos hD hs
 have h1:A*2 ^ s / (D*2 ^ s)=Q:=by
  rw [← h,Nat.mul_comm Q]
  rw [Nat.mul_add_div hE,Nat.div_eq_of_lt hU,Nat.add_zero]
 have h2:A*2 ^ s % (D*2 ^ s)=U:=by
  rw [← h,Nat.mul_comm Q,Nat.mul_add_mod,Nat.mod_eq_of_lt hU]
 rw [Nat.mul_div_mul_right _ _ hs] at h1
 rw [Nat.mul_mod_mul_right] at h2
 refine ⟨h1.symm,h2.symm,?_⟩
 rw [← h2,Nat.mul_div_cancel _ hs]
theorem limb_small {N:Nat} (h:N < 4294967296):limb N 0=N:=by
 unfold limb
 rw [Nat.pow_zero,Nat.div_one]; exact Nat.mod_eq_of_lt h
theorem nl_one {D:Nat} (h:nl D=1):limb D 0=D∧D < 4294967296∧0 < D:=by
 have h1:=lt_nl D
 rw [h,Nat.pow_one] at h1
 have h0:D≠0:=by intro e; rw [e,nl_zero] at h; omega
 refine ⟨?_,h1,by omega⟩
 unfold limb
 rw [Nat.pow_zero,Nat.div_one]; exact Nat.mod_eq_of_lt h1
/-! ### What a division's walk ends with -/
theorem wres_div1 {A ca D cd:Nat} {H:Heap} (h:A < D):wRes divideS (A,ca,D,cd) (.tuple ⟨[.slice none 0 0,.slice (some ⟨0,0,none⟩) (nl A) ca]⟩) H:=by
 have e1:divideS.val (A,ca,D,cd)=.tuple ⟨[.slice none 0 0,one A ca]⟩:=if_pos h
 have e2:divideS.new (A,ca,D,cd)=[]:=if_pos h
 refine ⟨[],List.nodup_nil,by simp,by rw [e2]; rfl,fun j b q' hb hq ho=>?_,fun j p b hp=>by simp at hp,_,by rw [e1]; rfl,.refl _⟩
 match j with
 | 0=>simp [divideS,blk2] at hb; subst hb; cases ho
 | 1=>simp [divideS,blk2] at hb; subst hb; cases ho
 | j+2=>simp [divideS,blk2] at hb
theorem wres_div2 {A ca D cd q r c1 c2:Nat} {H:Heap} {b1 b2:Blk} (h:D≤A) (hq:2≤q) (hr:2≤r) (hqr:q≠r)
  (h1:H[q]?=some (some b1)) (h2:H[r]?=some (some b2)) (o1:b1.own=true) (o2:b2.own=true) (l1:BlkLe (newB (A / D)) b1) (l2:BlkLe (newB (A % D)) b2) :
  wRes divideS (A,ca,D,cd) (.tuple ⟨[.slice (some ⟨q,0,none⟩) (nl (A / D)) c1,.slice (some ⟨r,0,none⟩) (nl (A % D)) c2]⟩) H:=by
 have hn:¬ A < D:=by omega
 have e1:divideS.val (A,ca,D,cd)=.tuple ⟨[newN 2 (A / D),newN 3 (A % D)]⟩:=if_neg hn
 have e2:divideS.new (A,ca,D,cd)=[newB (A / D),newB (A % D)]:=if_neg hn
 refine ⟨[q,r],by simp [hqr],fun p hp=>?_,by rw [e2]; rfl,fun j b q' hb hq ho=>?_,fun j p b hp hb=>?_,_,by rw [e1]; rfl,.two (.cap _ _ _ rfl) (.cap _ _ _ rfl)⟩
 ·simp at hp
  show 2≤p
  omega
 ·match j with
  | 0=>simp [divideS,blk2] at hb; subst hb; cases ho
  | 1=>simp [divideS,blk2] at hb; subst hb; cases ho
  | j+2=>simp [divideS,blk2] at hb
 ·rw [e2] at hb
  match j with
  | 0=>simp at hp hb; subst hp hb; exact ⟨b1,h1,o1,l1⟩
  | 1=>simp at hp hb; subst hp hb; exact ⟨b2,h2,o2,l2⟩
  | j+2=>simp at hb
theorem ble_expl1 {x n:Nat} (hx:x < 4294967296) (hn:n≤1):BlkLe (.flat false n 1 (limbRow x)) (.expl true 1 [[.int .u32 (x:Nat)]]):=by
 refine ⟨(fun h=>by cases h),rfl,hn,fun r hr=>?_,fun r hr v hv=>allS_spec (l:=limbRow x r) rfl v hv⟩
 have h0:r=0:=by
  have:r < n:=hr
  omega
 subst h0
 show [Value.int .u32 (limb x 0:Nat)]=[Value.int .u32 (x:Nat)]
 rw [limb_small hx]
end Go.Ae
/- Contracts of the integers: sign and magnitude in bytes stand for a number. -/
namespace Go.Ae
open Go
/-- The number that a sign and a magnitude stand for. -/
def valI (b:Bool) (N:Nat):Int:=if b then -(N:Int) else N
def encS (b:Bool) (N:Nat):Value:=.agg ⟨[.bool (b && N != 0),.string (nb N)]⟩
/-- The canonical form of a number. -/
def encI (z:Int):Value:=.agg ⟨[.bool (decide (z < 0)),.string (nb z.natAbs)]⟩
theorem encS_eq (b:Bool) (N:Nat):encS b N=encI (valI b N):=by
 unfold encS encI valI
 cases b
 ·simp
 ·by_cases h:N=0
  ·subst h; simp
  ·have e:(N != 0)=true:=by simp [h]
   simp [e]
   omega
theorem valI_mul (b c:Bool) (M N:Nat):valI (b != c) (M*N)=valI b M*valI c N:=by
 cases b <;> cases c <;> simp [valI,Int.neg_mul,Int.mul_neg]
theorem valI_neg (b:Bool) (N:Nat):valI (!b) N=-valI b N:=by cases b <;> simp [valI]
theorem valI_same (b:Bool) (M N:Nat):valI b (M+N)=valI b M+valI b N:=by cases b <;> simp [valI] <;> omega
theorem valI_diff {b c:Bool} (h:b≠c) {M N:Nat} (hle:N≤M):valI b (M - N)=valI b M+valI c N:=by
 cases b <;> cases c <;> simp [valI] at h ⊢ <;> omega
theorem valI_abs (b:Bool) (N:Nat):(valI b N).natAbs=N:=by cases b <;> simp [valI]
theorem valI_zero {b:Bool} {N:Nat}:valI b N=0↔N=0:=by cases b <;> simp [valI]
def cmpZ (x y:Int):Int:=if x < y then -1 else if y < x then 1 else 0
theorem cmpZ_pos (M N:Nat):cmpZ (M:Int) (N:Int)=cmpN M N:=by
 unfold cmpZ cmpN
 split <;> split <;> (try split) <;> (try split) <;> omega
theorem cmpZ_neg (M N:Nat):cmpZ (-(M:Int)) (-(N:Int))=cmpN N M:=by
 unfold cmpZ cmpN
 split <;> split <;> (try split) <;> (try split) <;> omega
theorem nl_mul_le (A D:Nat):nl (A*D)≤nl A+nl D:=nl_le (by
 rw [Nat.pow_add]
 exact Nat.mul_lt_mul_of_lt_of_le (lt_nl A) (Nat.le_of_lt (lt_nl D)) (Bpos _))
theorem nl_add_le (A D:Nat):nl (A+D)≤max (nl A) (nl D)+1:=nl_le (by
 have h1:=Nat.lt_of_lt_of_le (lt_nl A) (Nat.pow_le_pow_right (show 0 < B by decide) (Nat.le_max_left (nl A) (nl D)))
 have h2:=Nat.lt_of_lt_of_le (lt_nl D) (Nat.pow_le_pow_right (show 0 < B by decide) (Nat.le_max_right (nl A) (nl D)))
 have e:B ^ (max (nl A) (nl D)+1)=B ^ (max (nl A) (nl D))*4294967296:=rfl
 rw [e]
 generalize B ^ (max (nl A) (nl D))=K at *
 omega)
theorem nl_u64 {N:Nat} (h:N < 18446744073709551616):N < 4294967296 ^ 2:=Nat.lt_of_lt_of_le h (by decide)
theorem limb_u64 {N:Nat} (h:N < 18446744073709551616):limb N 0=N % 4294967296∧limb N 1=N / 4294967296:=by
 unfold limb
 rw [Nat.pow_zero,Nat.div_one,Nat.pow_one]
 exact ⟨rfl,Nat.mod_eq_of_lt (show N / 4294967296 < 4294967296 by omega)⟩
theorem byte_in {N x:Nat} (h:N < 36028797018963968) (hx:x < 256):IntKind.i64.wrap ((BitVec.ofInt IntKind.i64.bits (IntKind.i64.wrap ((N:Int)*256)) ||| BitVec.ofInt IntKind.i64.bits (IntKind.i64.wrap (x:Int))).toNat:Int)=((N*256+x:Nat):Int):=by
 rw [wrapi64 (x:=(N:Int)*256) (by omega) (by omega),wrapi64 (x:=(x:Int)) (by omega) (by omega),or_byte' N x h hx]
 omega
theorem two_rows {N:Nat} (h:N < 18446744073709551616):BlkLe (.flat false 2 1 (limbRow N)) (.expl true 1 [[.int .u32 (IntKind.u32.wrap (N:Int))],[.int .u32 (IntKind.u32.wrap ((N:Int).fdiv (2 ^ min (Int.toNat 32) IntKind.u64.bits)))]]):=by
 obtain ⟨h1,h2⟩:=limb_u64 h
 refine ⟨(fun h=>by cases h),rfl,Nat.le_refl _,fun r hr=>?_,fun r hr v hv=>allS_spec (l:=limbRow N r) rfl v hv⟩
 have hr:r < 2:=hr
 match r,hr with
 | 0,_ =>
  show [Value.int .u32 (limb N 0:Nat)]=[Value.int .u32 (IntKind.u32.wrap (N:Int))]
  rw [h1,wrapu32']; rfl
 | 1,_ =>
  show [Value.int .u32 (limb N 1:Nat)]=[Value.int .u32 (IntKind.u32.wrap ((N:Int).fdiv (2 ^ min (Int.toNat 32) IntKind.u64.bits)))]
  rw [h2,shr_u64_32,wrapu32 (by omega) (by omega)]; rfl
theorem cmpZ_lt {x y:Int} (h:x < y):cmpZ x y=-1:=if_pos h
theorem cmpZ_gt {x y:Int} (h:y < x):cmpZ x y=1:=by
 unfold cmpZ
 rw [if_neg (by omega),if_pos h]
theorem nl_pos' {N:Nat} (h:((nl N:Nat):Int) > 0):0 < N:=by
 rcases Nat.eq_zero_or_pos N with h0 | h0
 ·rw [h0,nl_zero] at h; exact absurd h (by decide)
 ·exact h0
theorem nl_not_pos {N:Nat} (h:¬ ((nl N:Nat):Int) > 0):N=0:=nl_eq_zero (by omega)
theorem dnl_pos {N:Nat} (h:0 < N):decide (((nl N:Nat):Int) > 0)=true:=decide_eq_true (by have:=nl_pos (show N≠0 by omega); omega)
theorem dnl_zero {N:Nat} (h:N=0):decide (((nl N:Nat):Int) > 0)=false:=by rw [h,nl_zero]; rfl
theorem pow6 {i:Nat} (h:i≤6):C ^ i≤281474976710656:=Nat.le_trans (Nat.pow_le_pow_right (by decide) h) (by decide)
theorem pow7 {i:Nat} (h:i≤7):C ^ i≤72057594037927936:=Nat.le_trans (Nat.pow_le_pow_right (by decide) h) (by decide)
theorem encI_zero:encI 0=.agg ⟨[.bool false,.string ⟨#[]⟩]⟩:=by unfold encI; rw [Int.natAbs_zero,nb_zero]; rfl
theorem floor_unique {x y q r:Int} (hy:0 < y) (h:r+y*q=x) (h0:0≤r) (h1:r < y):x.fdiv y=q∧x.fmod y=r:=by
 have:=(Int.ediv_emod_unique hy).2 ⟨h,h0,h1⟩
 rw [Int.fdiv_eq_ediv_of_nonneg _ (Int.le_of_lt hy),Int.fmod_eq_emod_of_nonneg _ (Int.le_of_lt hy)]
 exact this
theorem floor_unique_neg {x y q r:Int} (hy:y < 0) (h:r+y*q=x) (h0:r≤0) (h1:y < r):x.fdiv y=q∧x.fmod y=r:=by
 have h2:=floor_unique (x:=-x) (y:=-y) (q:=q) (r:=-r) (by omega) (by rw [← h,Int.neg_mul]; omega) (by omega) (by omega)
 rw [Int.neg_fdiv_neg] at h2
 refine ⟨h2.1,?_⟩
 rw [Int.fmod_def,h2.1,← h]
 omega
/-- Division towards minus infinity, from the magnitudes. -/
theorem div_floor {b c:Bool} {A D:Nat} (hD:0 < D) (h:A % D=0∨b=c):(valI b A).fdiv (valI c D)=valI (b != c) (A / D)∧(valI b A).fmod (valI c D)=valI b (A % D):=by
 have hm:=Nat.mod_lt A hD
 have he:((A % D:Nat):Int)+(D:Int)*((A / D:Nat):Int)=(A:Int):=by
  have:=Nat.mod_add_div A D
  have h2:=congrArg (fun n:Nat=>(n:Int)) this
  simpa using h2
 cases b <;> cases c
 ·exact floor_unique (by simp [valI]; omega) (by simpa [valI] using he) (by simp [valI]; omega) (by simp only [valI,Bool.false_eq_true,if_false]; omega)
 ·have h:A % D=0:=h.resolve_right (by simp)
  refine floor_unique_neg (by simp [valI]; omega) ?_ (by simp [valI,h]) (by simp [valI,h]; omega)
  rw [h] at he ⊢
  simp only [valI,Bool.false_eq_true,if_false,if_true,bne,Bool.not_false,show ((false == true)=false) from rfl,Int.neg_mul_neg]
  exact he
 ·have h:A % D=0:=h.resolve_right (by simp)
  refine floor_unique (by simp [valI]; omega) ?_ (by simp [valI,h]) (by simp [valI,h]; omega)
  rw [h] at he ⊢
  simp only [valI,Bool.false_eq_true,if_false,if_true,bne,Bool.not_false,show ((true == false)=false) from rfl,Int.mul_neg]
  omega
 ·refine floor_unique_neg (by simp [valI]; omega) ?_ (by simp only [valI,if_true]; omega) (by simp only [valI,if_true]; omega)
  simp only [valI,if_true,bne,Bool.not_true,show ((true == true)=true) from rfl,Bool.false_eq_true,if_false,Int.neg_mul]
  omega
theorem div_floor' {b c:Bool} {A D:Nat} (hD:0 < D) (h:A % D≠0) (hbc:b≠c):(valI b A).fdiv (valI c D)=valI (b != c) (A / D) - 1∧(valI b A).fmod (valI c D)=valI b (A % D)+valI c D:=by
 have hm:=Nat.mod_lt A hD
 have he:((A % D:Nat):Int)+(D:Int)*((A / D:Nat):Int)=(A:Int):=by
  have:=Nat.mod_add_div A D
  have h2:=congrArg (fun n:Nat=>(n:Int)) this
  simpa using h2
 cases b <;> cases c
 ·exact absurd rfl hbc
 ·refine floor_unique_neg (by simp [valI]; omega) ?_ (by simp only [valI,Bool.false_eq_true,if_false,if_true]; omega) (by simp only [valI,Bool.false_eq_true,if_false,if_true]; omega)
  simp only [valI,Bool.false_eq_true,if_false,if_true,bne,Bool.not_false,show ((false == true)=false) from rfl,Int.mul_sub,Int.neg_mul_neg,Int.mul_one]
  omega
 ·refine floor_unique (by simp [valI]; omega) ?_ (by simp only [valI,Bool.false_eq_true,if_false,if_true]; omega) (by simp only [valI,Bool.false_eq_true,if_false,if_true]; omega)
  simp only [valI,Bool.false_eq_true,if_false,if_true,bne,Bool.not_false,show ((true == false)=false) from rfl,Int.mul_sub,Int.mul_neg,Int.mul_one]
  omega
 ·exact absurd rfl hbc
theorem mag_zero {N:Nat} (h:N=0):(!(nb N).toList == (⟨#[]⟩:ByteArray).toList)=false:=by rw [str_eq,h,nb_zero]; simp
theorem mag_pos {N:Nat} (h:N≠0):(!(nb N).toList == (⟨#[]⟩:ByteArray).toList)=true:=by
 rw [str_eq]
 have:nb N≠⟨#[]⟩:=fun e=>h (nb_empty_iff.1 e)
 simp [this]
abbrev IV:=Bool × ByteArray
def IV.v (i:IV):Value:=.agg ⟨[.bool i.1,.string i.2]⟩
def IV.z (i:IV):Int:=valI i.1 (bnat i.2)
def IV.ok (i:IV):Prop:=i.2.size≤549755813888
theorem IV.nl {i:IV} (h:i.ok):nl (bnat i.2)≤137438953472:=by
 rw [nl_nby]
 have:=nby_bnat_le i.2
 have h:i.2.size≤549755813888:=h
 omega
theorem encS_z (b:Bool) (N:Nat):IV.z (b && N != 0,nb N)=valI b N:=by
 show valI _ (bnat (nb N))=_
 rw [bnat_nb]
 cases b
 ·rfl
 ·by_cases h:N=0
  ·subst h; rfl
  ·have e:(N != 0)=true:=by simp [h]
   rw [e]; rfl
theorem nb_size_le {N:Nat} {s:ByteArray} (h:N≤bnat s):(nb N).size≤s.size:=by
 rw [nb_size]
 exact Nat.le_trans (nby_mono h) (nby_bnat_le s)
theorem nb_one:(nb 1).size≤1:=by rw [nb_size]; exact nby_le (by decide)
theorem encI_z (z:Int):IV.z (decide (z < 0),nb z.natAbs)=z:=by
 show valI _ (bnat (nb z.natAbs))=z
 rw [bnat_nb]
 unfold valI
 by_cases h:z < 0
 ·simp [h]; omega
 ·simp [h]; omega
theorem small_z {i:IV} (h:i.2.size≤7):-72057594037927936 < i.z∧i.z < 72057594037927936:=by
 have h1:=Nat.lt_of_lt_of_le (bnat_lt i.2) (pow7 h)
 unfold IV.z valI
 split <;> omega
def ofS:PSpec:={ ι:=Int,args:=fun n=>[.int .i64 n],pre:=fun n=>-9223372036854775808≤n∧n < 9223372036854775808,val:=fun n=>encI n }
def littleS:PSpec:={ ι:=IV,args:=fun i=>[i.v],pre:=IV.ok,val:=fun i=>.tuple ⟨[.int .i64 (if i.2.size≤7 then i.z else 0),.bool (decide (i.2.size≤7))]⟩ }
def negS:PSpec:={ ι:=IV,args:=fun i=>[i.v],pre:=IV.ok,val:=fun i=>encI (-i.z) }
abbrev IV2:=IV × IV
def IV2.ok (i:IV2):Prop:=i.1.ok∧i.2.ok
def addS:PSpec:={ ι:=IV2,args:=fun i=>[i.1.v,i.2.v],pre:=IV2.ok,val:=fun i=>encI (i.1.z+i.2.z) }
def subS:PSpec:={ ι:=IV2,args:=fun i=>[i.1.v,i.2.v],pre:=IV2.ok,val:=fun i=>encI (i.1.z - i.2.z) }
def mulS:PSpec:={ ι:=IV2,args:=fun i=>[i.1.v,i.2.v],pre:=IV2.ok,val:=fun i=>encI (i.1.z*i.2.z) }
def cmpS:PSpec:={ ι:=IV2,args:=fun i=>[i.1.v,i.2.v],pre:=IV2.ok,val:=fun i=>.int .i64 (cmpZ i.1.z i.2.z) }
def gcdS:PSpec:={ ι:=IV2,args:=fun i=>[i.1.v,i.2.v],pre:=IV2.ok,val:=fun i=>encI (Int.gcd i.1.z i.2.z:Nat) }
def divS:PSpec:={ ι:=IV2,args:=fun i=>[i.1.v,i.2.v],pre:=IV2.ok,val:=fun i=>.tuple ⟨[encI (i.1.z.fdiv i.2.z),encI (if i.2.z=0 then 0 else i.1.z.fmod i.2.z),.int .i64 (if i.2.z=0 then 10 else 0)]⟩ }
/-- The first bytes of a number, one more. -/
theorem pre_step {s:ByteArray} {i:Nat} (h:i < s.size):bnat s / C ^ (s.size - (i+1))=bnat s / C ^ (s.size - i)*256+byteAt s i:=by
 rw [byteAt_eq h,show s.size - 1 - i=s.size - (i+1) by omega]
 have e:C ^ (s.size - i)=C ^ (s.size - (i+1))*C:=by rw [← Nat.pow_succ]; congr 1; omega
 rw [e,← Nat.div_div_eq_div_mul,Nat.mul_comm]
 exact (Nat.div_add_mod _ C).symm
theorem pre_lt (s:ByteArray) {i:Nat} (h:i≤s.size):bnat s / C ^ (s.size - i) < C ^ i:=by
 refine (Nat.div_lt_iff_lt_mul (Cpos _)).2 ?_
 rw [← Nat.pow_add,show i+(s.size - i)=s.size by omega]
 exact bnat_lt s
end Go.Ae
/- Contracts of the reference implementation's integers: digits as bytes. -/
namespace Go.Ae
open Go
def canonS:PSpec:={ ι:=IV,args:=fun i=>[i.v],pre:=IV.ok,val:=fun i=>encI i.z }
def smallS:PSpec:={ ι:=ByteArray,args:=fun s=>[.string s],pre:=fun s=>s.size≤7,val:=fun s=>.int .i64 (bnat s:Nat) }
def valueS:PSpec:={ ι:=IV,args:=fun i=>[i.v],pre:=fun i=>i.2.size≤7,val:=fun i=>.int .i64 i.z }
def magS:PSpec:={ ι:=Nat,args:=fun n=>[.int .i64 n],pre:=fun n=>n < 9223372036854775808,val:=fun n=>.string (nb n) }
def cmpMagS:PSpec:={ ι:=Nat × Nat,args:=fun i=>[.string (nb i.1),.string (nb i.2)],pre:=fun i=>nby i.1≤1099511627776∧nby i.2≤1099511627776,val:=fun i=>.int .i64 (cmpN i.1 i.2) }
/-- A leading byte that is zero may go. -/
theorem drop_zero {u:ByteArray} (h1:u.size≠0) (h2:byteAt u 0=0):bnat (u.extract 1 u.size)=bnat u∧(u.extract 1 u.size).size=u.size - 1:=by
 have h3:=byteAt_eq (s:=u) (i:=0) (by omega)
 have h4:=bnat_lt u
 refine ⟨?_,size_extract' (by omega) (Nat.le_refl _)⟩
 rw [bnat_extract (by omega) (Nat.le_refl _),Nat.sub_self,Nat.pow_zero,Nat.div_one]
 refine Nat.mod_eq_of_lt ?_
 rw [h2,Nat.sub_zero] at h3
 have h5:bnat u / C ^ (u.size - 1) < C:=(Nat.div_lt_iff_lt_mul (Cpos _)).2 (by
  rw [Nat.mul_comm,← Nat.pow_succ,show (u.size - 1).succ=u.size by omega]; exact h4)
 rw [Nat.mod_eq_of_lt h5] at h3
 rcases Nat.lt_or_ge (bnat u) (C ^ (u.size - 1)) with h6 | h6
 ·exact h6
 ·have:=Nat.div_pos h6 (Cpos _)
  omega
theorem byte_raw {N x:Nat} (h:N < 36028797018963968) (hx:x < 256):IntKind.i64.wrap ((BitVec.ofInt IntKind.i64.bits (IntKind.i64.wrap ((N:Int)*2 ^ min (Int.toNat 8) IntKind.i64.bits)) ||| BitVec.ofInt IntKind.i64.bits (IntKind.i64.wrap (x:Int))).toNat:Int)=((N*256+x:Nat):Int):=byte_in h hx
theorem u8_mod (t:Nat):IntKind.u8.wrap (t:Int)=((t % C:Nat):Int):=by rw [wrapu8']; rfl
theorem bytesOf_from {g:Nat→List Value} {i m X:Nat} (h:∀ r,r < m→g (i+r)=[.int .u8 ((X / C ^ (m - 1 - r) % C:Nat):Int)]):(⟨⟨bytesOf g i m⟩⟩:ByteArray)=be m X:=by
 have e:bytesOf g i m=bytesOf (fun r=>g (i+r)) 0 m:=by
  unfold bytesOf
  simp only [Nat.zero_add]
 rw [e]
 exact bytesOf_be h
theorem nb_be {N n:Nat} (h:N < C ^ n) (h2:n=0∨C ^ (n - 1)≤N):nb N=be n N:=by
 unfold nb
 rw [nby_eq h h2]
/-- A string without a leading zero. -/
theorem enc_canon {b:Bool} {s:ByteArray} (h:0 < s.size) (h2:byteAt s 0≠0):Value.agg ⟨[.bool b,.string s]⟩=encI (IV.z (b,s)):=by
 have h3:=eq_nb' (s:=s) (.inr h2)
 have h4:bnat s≠0:=by
  intro e
  rw [e,nb_zero] at h3
  rw [h3] at h
  exact absurd h (by decide)
 have e:=encS_eq b (bnat s)
 unfold encS at e
 rw [← h3] at e
 have e1:(bnat s != 0)=true:=by simp [h4]
 rw [e1,Bool.and_true] at e
 exact e
theorem mag8 {n:Nat} (h:n < 9223372036854775808):n / C ^ 8=0:=Nat.div_eq_of_lt (Nat.lt_of_lt_of_le h (by decide))
theorem cmpN_size {A D:Nat} (h:(nb A).size < (nb D).size):A < D:=by
 rw [nb_size,nb_size] at h
 exact lt_of_nby_lt h
theorem cmpN_less {A D:Nat} (h:(nb A).size=(nb D).size):Op.bytesLess (nb A).toList (nb D).toList=decide (A < D):=by
 rw [str_less h,bnat_nb,bnat_nb]
theorem cmpN_same {A D:Nat}:((nb A).toList == (nb D).toList)=decide (A=D):=by
 rw [str_eq]
 by_cases h:A=D
 ·subst h; simp
 ·have:nb A≠nb D:=fun e=>h (nb_inj e)
  simp [this,h]
theorem mag_bool (N:Nat):(!(nb N).toList == (⟨#[]⟩:ByteArray).toList)=(N != 0):=by
 by_cases h:N=0
 ·rw [mag_zero h,h]; rfl
 ·rw [mag_pos h]; simp [h]
theorem div_pow_succ (n k:Nat):n / C ^ k / 256=n / C ^ (k+1):=by rw [Nat.div_div_eq_div_mul,← Nat.pow_succ]
end Go.Ae
/- Digits to the base 256, as limbs are to the base 2^32. -/
namespace Go.Ae
open Go
def dig (N i:Nat):Nat:=N / C ^ i % C
theorem dig_lt (N i:Nat):dig N i < C:=Nat.mod_lt _ (by decide)
def setDig (Y j d:Nat):Nat:=Y % C ^ j+C ^ j*(d+C*(Y / C ^ (j+1)))
theorem div_splitC (Y j:Nat):Y=Y % C ^ j+C ^ j*(dig Y j+C*(Y / C ^ (j+1))):=by
 have h1:=Nat.mod_add_div Y (C ^ j)
 have h2:=Nat.mod_add_div (Y / C ^ j) C
 rw [Nat.div_div_eq_div_mul,← Nat.pow_succ] at h2
 unfold dig
 rw [h2,h1]
theorem setDig_num (Y j d:Nat):setDig Y j d+dig Y j*C ^ j=Y+d*C ^ j:=by
 have h:=div_splitC Y j
 unfold setDig
 rw [Nat.mul_add] at h ⊢
 have e1:C ^ j*dig Y j=dig Y j*C ^ j:=Nat.mul_comm _ _
 have e2:C ^ j*d=d*C ^ j:=Nat.mul_comm _ _
 omega
theorem dig_set {Y j d:Nat} (hd:d < C) (r:Nat):dig (setDig Y j d) r=if r=j then d else dig Y r:=by
 have ha:Y % C ^ j < C ^ j:=Nat.mod_lt _ (Cpos j)
 rcases Nat.lt_trichotomy r j with h | h | h
 ·rw [if_neg (by omega)]
  have key:∀ K,dig (Y % C ^ j+C ^ j*K) r=dig (Y % C ^ j) r:=by
   intro K
   unfold dig
   have e:C ^ j*K=C ^ r*(C*(C ^ (j - r - 1)*K)):=by
    rw [← Nat.mul_assoc,← Nat.mul_assoc,← Nat.pow_succ,← Nat.pow_add,show r+1+(j - r - 1)=j by omega]
   rw [e,Nat.add_mul_div_left _ _ (Cpos r),Nat.add_mul_mod_self_left]
  have h1:=key (d+C*(Y / C ^ (j+1)))
  have h2:=key (dig Y j+C*(Y / C ^ (j+1)))
  rw [← div_splitC Y j] at h2
  unfold setDig
  rw [h1,h2]
 ·subst h
  rw [if_pos rfl]
  unfold setDig dig
  rw [add_mul_div ha,Nat.add_mul_mod_self_left,Nat.mod_eq_of_lt hd]
 ·rw [if_neg (by omega)]
  have key:∀ d',d' < C→dig (Y % C ^ j+C ^ j*(d'+C*(Y / C ^ (j+1)))) r=Y / C ^ (j+1) / C ^ (r - j - 1) % C:=by
   intro d' hd'
   unfold dig
   have e:C ^ r=C ^ j*(C*C ^ (r - j - 1)):=by
    rw [← Nat.mul_assoc,← Nat.pow_succ,← Nat.pow_add,show j+1+(r - j - 1)=r by omega]
   rw [e,← Nat.div_div_eq_div_mul,add_mul_div ha,← Nat.div_div_eq_div_mul,add_mul_div hd']
  have h1:=key d hd
  have h2:=key (dig Y j) (dig_lt Y j)
  rw [← div_splitC Y j] at h2
  unfold setDig
  rw [h1,h2]
theorem dig_zero (r:Nat):dig 0 r=0:=by simp [dig]
theorem dig_top {N n:Nat} (h:N < C ^ n) {r:Nat} (hr:n≤r):dig N r=0:=by
 unfold dig
 have:C ^ n≤C ^ r:=Nat.pow_le_pow_right (by decide) hr
 rw [Nat.div_eq_of_lt (by omega)]; rfl
theorem mod_succC (N i:Nat):N % C ^ (i+1)=N % C ^ i+dig N i*C ^ i:=by
 unfold dig
 rw [Nat.pow_succ,Nat.mod_mul]
 rw [Nat.mul_comm (C ^ i)]
theorem setDig_new {Y i d:Nat} (hY:Y < C ^ i):setDig Y i d=Y+d*C ^ i:=by
 have h:=setDig_num Y i d
 rw [dig_top hY (Nat.le_refl _),Nat.zero_mul,Nat.add_zero] at h
 exact h
theorem setDig_lt {Z j d m:Nat} (hZ:Z < C ^ m) (hj:j < m) (hd:d < C):setDig Z j d < C ^ m:=by
 have h1:(setDig Z j d) / C ^ m=0:=by
  have e:C ^ m=C ^ j*(C*C ^ (m - j - 1)):=by
   rw [← Nat.mul_assoc,← Nat.pow_succ,← Nat.pow_add,show j+1+(m - j - 1)=m by omega]
  have ha:Z % C ^ j < C ^ j:=Nat.mod_lt _ (Cpos j)
  unfold setDig
  rw [e,← Nat.div_div_eq_div_mul,add_mul_div ha,← Nat.div_div_eq_div_mul,add_mul_div hd,Nat.div_div_eq_div_mul,← Nat.pow_add,show j+1+(m - j - 1)=m by omega]
  exact Nat.div_eq_of_lt hZ
 rcases Nat.lt_or_ge (setDig Z j d) (C ^ m) with h | h
 ·exact h
 ·have:=Nat.div_pos h (Cpos m)
  omega
/-- One dig of a product. -/
theorem times_stepC {Z c x D i k t Y:Nat} (he:Z+c*C ^ (i+k)=Y+x*(D % C ^ k)*C ^ i) (ht:t=c+(x*dig D k+dig Z (i+k))) :
  setDig Z (i+k) (t % C)+t / C*C ^ (i+(k+1))=Y+x*(D % C ^ (k+1))*C ^ i:=by
 have hs:=setDig_num Z (i+k) (t % C)
 rw [mod_succC D k,← Nat.add_assoc,Nat.pow_succ]
 rw [Nat.pow_add] at he hs ⊢
 exact times_arith he hs ht
theorem times_rowC {A D Y Z c i n:Nat} (hY:Y=A % C ^ i*D) (hD:D < C ^ n) (hZ:Z < C ^ (i+n)) (he:Z+c*C ^ (i+n)=Y+dig A i*(D % C ^ n)*C ^ i) :
  setDig Z (i+n) c=A % C ^ (i+1)*D:=by
 rw [setDig_new hZ,he,Nat.mod_eq_of_lt hD,hY,mod_succC,Nat.add_mul,Nat.mul_assoc (dig A i),Nat.mul_comm D,← Nat.mul_assoc]
end Go.Ae
/- Contracts of the reference implementation's digit arithmetic. -/
namespace Go.Ae
open Go
abbrev S2:=ByteArray × ByteArray
def S2.ok (i:S2):Prop:=i.1.size≤549755813896∧i.2.size≤549755813896
def addMagS:PSpec:={ ι:=S2,args:=fun i=>[.string i.1,.string i.2],pre:=S2.ok,val:=fun i=>.string (nb (bnat i.1+bnat i.2)) }
def subMagS:PSpec:={ ι:=S2,args:=fun i=>[.string i.1,.string i.2],pre:=fun i=>S2.ok i∧bnat i.2≤bnat i.1,val:=fun i=>.string (nb (bnat i.1 - bnat i.2)) }
def mulMagS:PSpec:={ ι:=S2,args:=fun i=>[.string i.1,.string i.2],pre:=fun i=>i.1.size≤549755813888∧i.2.size≤549755813888,val:=fun i=>.string (nb (bnat i.1*bnat i.2)) }
def divMagS:PSpec:={ ι:=ByteArray × Nat,args:=fun i=>[.string i.1,.string (nb i.2)],pre:=fun i=>i.1.size≤549755813888∧nby i.2≤549755813888∧i.2≠0,val:=fun i=>.tuple ⟨[.string (nb (bnat i.1 / i.2)),.string (nb (bnat i.1 % i.2))]⟩ }
theorem byteAt_dig {s:ByteArray} {j:Nat} (h:j < s.size):byteAt s (s.size - (j+1))=dig (bnat s) j:=by
 rw [byteAt_eq (by omega),show s.size - 1 - (s.size - (j+1))=j by omega]
 rfl
theorem dig_over {s:ByteArray} {j:Nat} (h:s.size≤j):dig (bnat s) j=0:=dig_top (bnat_lt s) h
/-- The last j rows hold the last j digits. -/
def LastRows (g:Nat→List Value) (n j Y:Nat):Prop:=(∀ r,r < n→∃ x:Int,g r=[.int .u8 x])∧∀ r,n - j≤r→r < n→g r=[.int .u8 ((dig Y (n - 1 - r):Nat):Int)]
theorem lastRows_start (n:Nat):LastRows (fun _=>[.int .u8 0]) n 0 0:=⟨fun r _=>⟨0,rfl⟩,fun r h1 h2=>absurd h1 (by omega)⟩
theorem lastRows_step {g:Nat→List Value} {n j Y d:Nat} (h:LastRows g n j Y) (hj:j < n) (hY:Y < C ^ j) (hd:d < C) :
  LastRows (fun r=>if r=n - (j+1) then [.int .u8 (d:Nat)] else g r) n (j+1) (Y+d*C ^ j):=by
 refine ⟨fun r hr=>?_,fun r h1 h2=>?_⟩
 ·by_cases e:r=n - (j+1)
  ·exact ⟨_,if_pos e⟩
  ·simp only [if_neg e]; exact h.1 r hr
 ·rw [← setDig_new hY,dig_set hd]
  by_cases e:r=n - (j+1)
  ·simp only [if_pos e]
   rw [if_pos (by omega)]
  ·simp only [if_neg e]
   rw [if_neg (by omega)]
   exact h.2 r (by omega) h2
theorem lastRows_str {g:Nat→List Value} {n Y:Nat} (h:LastRows g n n Y):(⟨⟨bytesOf g 0 n⟩⟩:ByteArray)=be n Y:=bytesOf_be fun r hr=>by
 rw [h.2 r (by omega) hr]
 rfl
theorem plus_stepC {X D Y c i t:Nat} (he:Y+c*C ^ i=X % C ^ i+D % C ^ i) (ht:t=c+dig X i+dig D i) :
  Y+t % C*C ^ i+t / C*C ^ (i+1)=X % C ^ (i+1)+D % C ^ (i+1):=by
 rw [mod_succC X i,mod_succC D i,Nat.pow_succ]
 exact plus_arith he ht
theorem add_new_ltC {Y d i:Nat} (hY:Y < C ^ i) (hd:d < C):Y+d*C ^ i < C ^ (i+1):=by
 have h:(d+1)*C ^ i≤C*C ^ i:=Nat.mul_le_mul_right _ hd
 rw [Nat.pow_succ,Nat.mul_comm (C ^ i) C]
 rw [Nat.add_mul] at h
 omega
theorem sum_end {A D Y c n p q:Nat} (hA:A < C ^ p) (hD:D < C ^ q) (hn:p < n∧q < n) (hY:Y < C ^ n) (he:Y+c*C ^ n=A % C ^ n+D % C ^ n):Y=A+D:=by
 have h1:A < C ^ (n - 1):=Nat.lt_of_lt_of_le hA (Nat.pow_le_pow_right (by decide) (by omega))
 have h2:D < C ^ (n - 1):=Nat.lt_of_lt_of_le hD (Nat.pow_le_pow_right (by decide) (by omega))
 have e:C ^ n=C ^ (n - 1)*256:=by rw [← Nat.pow_succ]; congr 1; omega
 have h3:A < C ^ n:=by omega
 have h4:D < C ^ n:=by omega
 rw [Nat.mod_eq_of_lt h3,Nat.mod_eq_of_lt h4] at he
 have hc:c=0:=by
  rcases Nat.eq_zero_or_pos c with h | h
  ·exact h
  ·have:1*C ^ n≤c*C ^ n:=Nat.mul_le_mul_right _ h
   omega
 subst hc
 omega
theorem trim_be {n Y:Nat} (h:Y < C ^ n):nb (bnat (be n Y))=nb Y:=by rw [bnat_be,Nat.mod_eq_of_lt h]
/-- A sum under way: kept from omega's eyes. -/
structure AddInv (A D j Y c:Nat):Prop where
 lt:Y < C ^ j
 eq:Y+c*C ^ j=A % C ^ j+D % C ^ j
theorem addInv_start (A D:Nat):AddInv A D 0 0 0:=⟨by decide,by simp [Nat.mod_one]⟩
theorem addInv_step {A D j Y c t n:Nat} {g:Nat→List Value} (h:AddInv A D j Y c) (hg:LastRows g n j Y) (hj:j < n) (ht:t=c+dig A j+dig D j) :
  ∃ Y',AddInv A D (j+1) Y' (t / C)∧LastRows (fun r=>if r=n - (j+1) then [.int .u8 (t % C:Nat)] else g r) n (j+1) Y' :=
 have htC:t % C < C:=Nat.mod_lt _ (by decide)
 ⟨Y+t % C*C ^ j,⟨add_new_ltC h.lt htC,plus_stepC h.eq ht⟩,lastRows_step hg hj h.lt htC⟩
theorem addInv_end {s t:ByteArray} {Y c n:Nat} {g:Nat→List Value} (h:AddInv (bnat s) (bnat t) n Y c) (hg:LastRows g n n Y) (hn:s.size < n∧t.size < n) :
  ∃ v:ByteArray,(⟨⟨bytesOf g 0 n⟩⟩:ByteArray)=v∧v.size=n∧nb (bnat v)=nb (bnat s+bnat t) :=
 ⟨be n Y,lastRows_str hg,be_size _ _,by rw [trim_be h.lt,sum_end (bnat_lt s) (bnat_lt t) hn h.lt h.eq]⟩
theorem wrap_neg {n:Int} (h:n < 0) (h2:-9223372036854775808≤n):IntKind.i64.wrap (0 - n)=if n=-9223372036854775808 then n else -n:=by
 split
 ·rename_i e; subst e; decide
 ·rw [wrapi64 (by omega) (by omega)]; omega
theorem nb_min:nb 9223372036854775808=⟨#[128,0,0,0,0,0,0,0]⟩:=by
 rw [nb_be (n:=8) (by decide) (.inr (by decide))]
 rfl
theorem encI_min:encI (-9223372036854775808)=.agg ⟨[.bool true,.string ⟨#[128,0,0,0,0,0,0,0]⟩]⟩:=by
 rw [← nb_min]; rfl
theorem encI_of_neg {n:Int} (h:n < 0):encI n=.agg ⟨[.bool true,.string (nb n.natAbs)]⟩:=by
 unfold encI
 rw [decide_eq_true h]
theorem encI_of_pos {n:Int} (h:0≤n):encI n=.agg ⟨[.bool false,.string (nb n.natAbs)]⟩:=by
 unfold encI
 rw [decide_eq_false (by omega)]
theorem IV.nby {i:IV} (h:i.ok):Go.Ae.nby i.z.natAbs≤549755813888:=by
 unfold IV.z
 rw [valI_abs]
 exact Nat.le_trans (nby_bnat_le i.2) h
theorem cmpZ_nn {x y:Int} (hx:0≤x) (hy:0≤y):cmpZ x y=cmpN x.natAbs y.natAbs:=by
 rw [← cmpZ_pos]; congr 1 <;> omega
theorem cmpZ_mm {x y:Int} (hx:x < 0) (hy:y < 0):cmpZ x y=cmpN y.natAbs x.natAbs:=by
 rw [← cmpZ_neg]; congr 1 <;> omega
end Go.Ae
/- The reference implementation's difference, product, quotient of digits: the plain laws. -/
namespace Go.Ae
open Go
/-- A difference under way. -/
structure SubInv (A D j Y c:Nat):Prop where
 lt:Y < C ^ j
 eq:Y+D % C ^ j=A % C ^ j+c*C ^ j
theorem subInv_start (A D:Nat):SubInv A D 0 0 0:=⟨by decide,by simp [Nat.mod_one]⟩
theorem sub_arithC {Y D A P c e d a c':Nat} (h:Y+D=A+c*P) (he:e+c+d=a+256*c') :
  Y+e*P+(D+d*P)=A+a*P+c'*(P*256):=by
 have h2:(e+c+d)*P=(a+256*c')*P:=by rw [he]
 simp only [Nat.add_mul] at h2
 have h3:c'*(P*256)=256*c'*P:=by rw [Nat.mul_comm P,← Nat.mul_assoc,Nat.mul_comm c']
 omega
theorem subInv_step {A D j Y c e c' n:Nat} {g:Nat→List Value} (h:SubInv A D j Y c) (hg:LastRows g n j Y) (hj:j < n) (he:e < C) (ht:e+c+dig D j=dig A j+256*c') :
  ∃ Y',SubInv A D (j+1) Y' c'∧LastRows (fun r=>if r=n - (j+1) then [.int .u8 (e:Nat)] else g r) n (j+1) Y' :=
 ⟨Y+e*C ^ j,⟨add_new_ltC h.lt he,by
  rw [mod_succC A j,mod_succC D j,Nat.pow_succ]
  exact sub_arithC h.eq ht⟩,lastRows_step hg hj h.lt he⟩
theorem subInv_end {s t:ByteArray} {Y c:Nat} {g:Nat→List Value} (h:SubInv (bnat s) (bnat t) s.size Y c) (hle:bnat t≤bnat s) (hg:LastRows g s.size s.size Y) :
  ∃ v:ByteArray,(⟨⟨bytesOf g 0 s.size⟩⟩:ByteArray)=v∧v.size=s.size∧nb (bnat v)=nb (bnat s - bnat t):=by
 refine ⟨be s.size Y,lastRows_str hg,be_size _ _,?_⟩
 rw [trim_be h.lt]
 have h1:=h.eq
 have h2:=h.lt
 have h3:=bnat_lt s
 rw [Nat.mod_eq_of_lt h3,Nat.mod_eq_of_lt (Nat.lt_of_le_of_lt hle h3)] at h1
 have hc:c=0:=by
  rcases Nat.eq_zero_or_pos c with h | h
  ·exact h
  ·have:1*C ^ s.size≤c*C ^ s.size:=Nat.mul_le_mul_right _ h
   omega
 subst hc
 congr 1
 omega
/-- The rows of a list of digits, the first one last. -/
def RowsI (g:Nat→List Value) (n Z:Nat):Prop:=∀ r,r < n→g r=[.int .i64 ((dig Z (n - 1 - r):Nat):Int)]
theorem rowsI_start (n:Nat):RowsI (fun _=>[.int .i64 0]) n 0:=fun r hr=>by rw [dig_zero]; rfl
theorem rowsI_set {g:Nat→List Value} {n Z j d:Nat} (h:RowsI g n Z) (hj:j < n) (hd:d < C) :
  RowsI (fun r=>if r=n - 1 - j then [.int .i64 (d:Nat)] else g r) n (setDig Z j d):=fun r hr=>by
 rw [dig_set hd]
 by_cases e:r=n - 1 - j
 ·simp only [if_pos e]; rw [if_pos (by omega)]
 ·simp only [if_neg e]; rw [if_neg (by omega)]; exact h r hr
/-- A product under way: p digits of A are done, and q digits of the row. -/
structure MulInv (A D p m q Z c:Nat):Prop where
 lt:Z < C ^ (p+m)
 eq:Z+c*C ^ (p+q)=A % C ^ p*D+dig A p*(D % C ^ q)*C ^ p
structure MulRow (A D p m Z:Nat):Prop where
 lt:Z < C ^ (p+m)
 eq:Z=A % C ^ p*D
theorem mulRow_start (A D m:Nat):MulRow A D 0 m 0:=⟨Cpos _,by simp [Nat.mod_one]⟩
theorem mulInv_start {A D p m Z:Nat} (h:MulRow A D p m Z):MulInv A D p m 0 Z 0:=⟨h.lt,by simp [Nat.mod_one,h.eq]⟩
theorem mulInv_step {A D p m q Z c t n:Nat} {g:Nat→List Value} (h:MulInv A D p m q Z c) (hg:RowsI g n Z) (hq:q < m) (hn:p+m < n) (ht:t=c+(dig A p*dig D q+dig Z (p+q))) :
  ∃ Z',MulInv A D p m (q+1) Z' (t / C)∧RowsI (fun r=>if r=n - 1 - (p+q) then [.int .i64 (t % C:Nat)] else g r) n Z' :=
 have htC:t % C < C:=Nat.mod_lt _ (by decide)
 ⟨setDig Z (p+q) (t % C),⟨setDig_lt h.lt (by omega) htC,times_stepC h.eq ht⟩,rowsI_set hg (by omega) htC⟩
theorem mulInv_end {A D p m Z c n:Nat} {g:Nat→List Value} (h:MulInv A D p m m Z c) (hD:D < C ^ m) (hg:RowsI g n Z) (hn:p+m < n) (hc:c < C) :
  (dig Z (p+m)=0)∧∃ Z',MulRow A D (p+1) m Z'∧RowsI (fun r=>if r=n - 1 - (p+m) then [.int .i64 (c:Nat)] else g r) n Z' :=
 ⟨dig_top h.lt (Nat.le_refl _),setDig Z (p+m) c,⟨by
  rw [show p+1+m=p+m+1 by omega]
  exact setDig_lt (Nat.lt_of_lt_of_le h.lt (Nat.pow_le_pow_right (by decide) (Nat.le_succ _))) (by omega) hc,times_rowC rfl hD h.lt h.eq⟩,rowsI_set hg hn hc⟩
theorem mulRow_end {A D p m Z:Nat} (h:MulRow A D p m Z) (hA:A < C ^ p):Z=A*D:=by rw [h.eq,Nat.mod_eq_of_lt hA]
/-- A list of digits turned into bytes, the first i of them. -/
def ByteRows (g:Nat→List Value) (n i Z:Nat):Prop:=(∀ r,r < n→∃ x:Int,g r=[.int .u8 x])∧∀ r,r < i→g r=[.int .u8 ((dig Z (n - 1 - r):Nat):Int)]
theorem byteRows_start (n Z:Nat):ByteRows (fun _=>[.int .u8 0]) n 0 Z:=⟨fun r _=>⟨0,rfl⟩,fun r h=>absurd h (by omega)⟩
theorem byteRows_step {g:Nat→List Value} {n i Z:Nat} (h:ByteRows g n i Z) (hi:i < n) :
  ByteRows (fun r=>if r=i then [.int .u8 (dig Z (n - 1 - i):Nat)] else g r) n (i+1) Z:=by
 refine ⟨fun r hr=>?_,fun r hr=>?_⟩
 ·by_cases e:r=i
  ·exact ⟨_,if_pos e⟩
  ·simp only [if_neg e]; exact h.1 r hr
 ·by_cases e:r=i
  ·subst e; simp
  ·simp only [if_neg e]; exact h.2 r (by omega)
theorem byteRows_str {g:Nat→List Value} {n Z:Nat} (h:ByteRows g n n Z):(⟨⟨bytesOf g 0 n⟩⟩:ByteArray)=be n Z:=bytesOf_be fun r hr=>h.2 r hr
theorem byteRows_end {g:Nat→List Value} {n Z:Nat} (h:ByteRows g n n Z) (hZ:Z < C ^ n):∃ v:ByteArray,(⟨⟨bytesOf g 0 n⟩⟩:ByteArray)=v∧v.size=n∧nb (bnat v)=nb Z :=
 ⟨be n Z,byteRows_str h,be_size _ _,trim_be hZ⟩
theorem mul_row_le {c x y z t:Nat} (hc:c < C) (hx:x < C) (hy:y < C) (hz:z < C) (ht:t=c+(x*y+z)):t / C < C∧t < 65536:=by
 have:x*y≤255*255:=Nat.mul_le_mul (Nat.le_of_lt_succ hx) (Nat.le_of_lt_succ hy)
 have hc:c < 256:=hc
 have hz:z < 256:=hz
 have h:t < 65536:=by omega
 exact ⟨by show t / 256 < 256; omega,h⟩
theorem mul_val {c x y z t:Nat} (hc:c < C) (hx:x < C) (hy:y < C) (hz:z < C) (ht:t=c+(x*y+z)) :
  IntKind.i64.wrap ((c:Int)+IntKind.i64.wrap ((z:Int)+IntKind.i64.wrap (IntKind.i64.wrap (x:Int)*IntKind.i64.wrap (y:Int))))=(t:Int):=by
 have h:x*y≤255*255:=Nat.mul_le_mul (Nat.le_of_lt_succ hx) (Nat.le_of_lt_succ hy)
 have hc:c < 256:=hc
 have hz:z < 256:=hz
 have hx:x < 256:=hx
 have hy:y < 256:=hy
 have e:(x:Int)*(y:Int)=((x*y:Nat):Int):=by rw [Int.natCast_mul]
 rw [wrapi64 (x:=(x:Int)) (by omega) (by omega),wrapi64 (x:=(y:Int)) (by omega) (by omega),e,wrapi64 (x:=((x*y:Nat):Int)) (by omega) (by omega),wrapi64 (x:=(z:Int)+_) (by omega) (by omega),wrapi64 (by omega) (by omega)]
 omega
theorem and_255 {t:Nat} (h:t < 65536):((BitVec.ofInt IntKind.i64.bits (t:Int) &&& BitVec.ofInt IntKind.i64.bits 255).toNat:Int)=((t % C:Nat):Int):=by
 have e1:BitVec.ofInt IntKind.i64.bits (t:Int)=BitVec.ofNat 64 t:=by
  apply BitVec.eq_of_toNat_eq
  show ((t:Int) % ((2 ^ 64:Nat):Int)).toNat=t % 2 ^ 64
  omega
 rw [e1]
 show (((t % 2 ^ 64) &&& 255:Nat):Int)=_
 have:(t % 2 ^ 64) &&& 255=t % 256:=by
  rw [show (255:Nat)=2 ^ 8 - 1 from rfl,Nat.and_two_pow_sub_one_eq_mod]
  omega
 rw [this]
theorem prod_ltC {s t:ByteArray}:bnat s*bnat t < C ^ (s.size+t.size):=by
 rw [Nat.pow_add]
 exact Nat.lt_of_le_of_lt (Nat.mul_le_mul_right _ (Nat.le_of_lt (bnat_lt s))) (Nat.mul_lt_mul_of_pos_left (bnat_lt t) (Cpos _))
/-- A long division under way: the first i bytes of s are done. -/
theorem u8_of {e:Nat} (h:e < 256):IntKind.u8.wrap (e:Int)=(e:Int):=wrapu8 (by omega) (by omega)
structure DivInv (s:ByteArray) (D i Q R:Nat):Prop where
 eq:bnat s / C ^ (s.size - i)=Q*D+R
 lt:R < D
 q:Q < C ^ i
structure DivStep (D R' k d R:Nat):Prop where
 eq:R'=d*D+R
 lt:R < 2 ^ k*D
 d:d+2 ^ k≤256
theorem divInv_start (s:ByteArray) {D:Nat} (hD:D≠0):DivInv s D 0 0 0:=⟨by
 rw [Nat.sub_zero,Nat.div_eq_of_lt (bnat_lt s),Nat.zero_mul],Nat.pos_of_ne_zero hD,Nat.zero_lt_one⟩
theorem divStep_start {s:ByteArray} {D i Q R:Nat} (h:DivInv s D i Q R) (hi:i < s.size):DivStep D (R*256+byteAt s i) 8 0 (R*256+byteAt s i) :=
 ⟨by omega,by
  have h1:byteAt s i < 256:=byteAt_lt s i
  have h2:=h.lt
  show _ < 256*D
  omega,by decide⟩
theorem divStep_yes {D R' k d R:Nat} (h:DivStep D R' (k+1) d R) (hR:2 ^ k*D≤R):DivStep D R' k (d+2 ^ k) (R - 2 ^ k*D):=⟨by
 have:=h.eq
 rw [Nat.add_mul]
 omega,by
 have:=h.lt
 rw [Nat.pow_succ,Nat.mul_comm (2 ^ k) 2,Nat.mul_assoc] at this
 omega,by
 have:=h.d
 rw [Nat.pow_succ] at this
 omega⟩
theorem divStep_no {D R' k d R:Nat} (h:DivStep D R' (k+1) d R) (hR:R < 2 ^ k*D):DivStep D R' k d R:=⟨h.eq,hR,by
 have:=h.d
 rw [Nat.pow_succ] at this
 omega⟩
theorem divInv_step {s:ByteArray} {D i Q R d R2:Nat} (h:DivInv s D i Q R) (hi:i < s.size) (h2:DivStep D (R*256+byteAt s i) 0 d R2):DivInv s D (i+1) (Q*256+d) R2:=⟨by
 rw [pre_step hi,h.eq,Nat.add_mul (Q*256),Nat.add_mul (Q*D)]
 have h3:=h2.eq
 have e:Q*256*D=Q*D*256:=by rw [Nat.mul_assoc,Nat.mul_comm 256,Nat.mul_assoc]
 rw [e,Nat.add_assoc,h3,Nat.add_assoc],by have:=h2.lt; simpa using this,by
 have:=h.q
 have h3:d < 256:=by have:=h2.d; omega
 rw [Nat.pow_succ]
 show _ < C ^ i*256
 omega⟩
theorem divInv_end {s:ByteArray} {D Q R:Nat} (h:DivInv s D s.size Q R):Q=bnat s / D∧R=bnat s % D:=by
 have h1:=h.eq
 rw [Nat.sub_self,Nat.pow_zero,Nat.div_one] at h1
 have h2:=h.lt
 refine ⟨?_,?_⟩
 ·rw [h1,Nat.mul_comm,Nat.mul_add_div (by omega),Nat.div_eq_of_lt h2,Nat.add_zero]
 ·rw [h1,Nat.mul_comm,Nat.mul_add_mod,Nat.mod_eq_of_lt h2]
/-- The multiples of a divisor. -/
def TimesRows (g:Nat→List Value) (i D:Nat):Prop:=(∀ r,r < 8→∃ x:ByteArray,g r=[.string x])∧∀ r,r < i→g r=[.string (nb (2 ^ r*D))]
theorem timesRows_start (D:Nat):TimesRows (fun r=>if r=0 then [.string (nb D)] else [.string ⟨#[]⟩]) 1 D:=by
 refine ⟨fun r hr=>?_,fun r hr=>?_⟩
 ·by_cases e:r=0
  ·exact ⟨_,if_pos e⟩
  ·exact ⟨_,if_neg e⟩
 ·have e:r=0:=by omega
  subst e
  simp
theorem timesRows_step {g:Nat→List Value} {i D:Nat} (h:TimesRows g (i+1) D) (hi:i+1 < 8) {v:ByteArray} (hv:v=nb (2 ^ i*D+2 ^ i*D)) :
  TimesRows (fun r=>if r=i+1 then [.string v] else g r) (i+1+1) D:=by
 refine ⟨fun r hr=>?_,fun r hr=>?_⟩
 ·by_cases e:r=i+1
  ·exact ⟨_,if_pos e⟩
  ·simp only [if_neg e]; exact h.1 r hr
 ·by_cases e:r=i+1
  ·subst e
   simp only [if_true]
   rw [hv,Nat.pow_succ,Nat.mul_comm (2 ^ i) 2,Nat.mul_assoc,Nat.two_mul]
  ·simp only [if_neg e]; exact h.2 r (by omega)
theorem nby_times {D k:Nat} (hk:k≤8):nby (2 ^ k*D)≤nby D+1:=nby_le (by
 have h1:=lt_nby D
 have h2:2 ^ k≤2 ^ 8:=Nat.pow_le_pow_right (by decide) hk
 rw [Nat.pow_succ,Nat.mul_comm (C ^ _)]
 exact Nat.lt_of_le_of_lt (Nat.mul_le_mul_right _ h2) (Nat.mul_lt_mul_of_pos_left h1 (by decide)))
theorem shl1 {k:Nat} (h:k≤7):IntKind.i64.wrap (1*2 ^ min (Int.toNat (IntKind.u64.wrap (k:Int))) IntKind.i64.bits)=((2 ^ k:Nat):Int):=by
 rcases k with _ | _ | _ | _ | _ | _ | _ | _ | k
 all_goals first | rfl | decide | omega
theorem trim_byte (R:Nat) {s:ByteArray} {i:Nat} (h:i < s.size):bnat (nb R++s.extract i (i+1))=R*256+byteAt s i∧(nb R++s.extract i (i+1)).size=nby R+1:=by
 have e:=size_extract' (s:=s) (l:=i) (h:=i+1) (by omega) (by omega)
 refine ⟨?_,by rw [ByteArray.size_append,nb_size,e]; omega⟩
 rw [bnat_append,bnat_nb,e,bnat_extract (by omega) (by omega),byteAt_eq h]
 rw [show i+1 - i=1 by omega,Nat.pow_one,show s.size - (i+1)=s.size - 1 - i by omega]
/-- The first i rows hold the i digits of Q. -/
def QRows (g:Nat→List Value) (n i Q:Nat):Prop:=(∀ r,r < n→∃ x:Int,g r=[.int .u8 x])∧∀ r,r < i→g r=[.int .u8 ((dig Q (i - 1 - r):Nat):Int)]
theorem qRows_start (n:Nat):QRows (fun _=>[.int .u8 0]) n 0 0:=⟨fun r _=>⟨0,rfl⟩,fun r h=>absurd h (by omega)⟩
theorem dig_push {Q d:Nat} (hd:d < 256) (r:Nat):dig (Q*256+d) (r+1)=dig Q r∧dig (Q*256+d) 0=d:=by
 unfold dig
 have e:(Q*256+d) / 256=Q:=by omega
 refine ⟨?_,?_⟩
 ·rw [Nat.pow_succ,Nat.mul_comm (C ^ r) C,← Nat.div_div_eq_div_mul]
  show (Q*256+d) / 256 / _ % _=_
  rw [e]
 ·rw [Nat.pow_zero,Nat.div_one]
  show _ % 256=_
  omega
theorem qRows_step {g:Nat→List Value} {n i Q d:Nat} (h:QRows g n i Q) (hi:i < n) (hd:d < 256) :
  QRows (fun r=>if r=i then [.int .u8 (d:Nat)] else g r) n (i+1) (Q*256+d):=by
 refine ⟨fun r hr=>?_,fun r hr=>?_⟩
 ·by_cases e:r=i
  ·exact ⟨_,if_pos e⟩
  ·simp only [if_neg e]; exact h.1 r hr
 ·by_cases e:r=i
  ·subst e; simp only [if_true]
   rw [show r+1 - 1 - r=0 by omega,(dig_push hd 0).2]
  ·simp only [if_neg e]
   rw [h.2 r (by omega),show i+1 - 1 - r=(i - 1 - r)+1 by omega,(dig_push hd _).1]
theorem qRows_end {g:Nat→List Value} {n Q:Nat} (h:QRows g n n Q) (hQ:Q < C ^ n):∃ v:ByteArray,(⟨⟨bytesOf g 0 n⟩⟩:ByteArray)=v∧v.size=n∧nb (bnat v)=nb Q :=
 ⟨be n Q,bytesOf_be fun r hr=>h.2 r hr,be_size _ _,trim_be hQ⟩
end Go.Ae
/- Integers in canonical form, and what the reference's sums and products make of them. -/
namespace Go.Ae
open Go
theorem encI_mk {B:Bool} {N:Nat} {z:Int} (h1:B=decide (z < 0)) (h2:N=z.natAbs):Value.agg ⟨[.bool B,.string (nb N)]⟩=encI z:=by
 subst h1; subst h2; rfl
/-- The canonical form of an integer: sign and digits. -/
structure EI (z:Int) (B:Bool) (m:ByteArray):Prop where
 enc:encI z=.agg ⟨[.bool B,.string m]⟩
 sign:B=decide (z < 0)
 mag:m=nb z.natAbs
theorem EI.mk' (z:Int):∃ B m,EI z B m:=⟨_,_,rfl,rfl,rfl⟩
theorem EI.abs {z:Int} {B:Bool} {m:ByteArray} (h:EI z B m):bnat m=z.natAbs:=by rw [h.mag,bnat_nb]
theorem EI.val {z:Int} {B:Bool} {m:ByteArray} (h:EI z B m):IV.z (B,m)=z:=by
 rw [h.sign,h.mag]; exact encI_z z
theorem EI.nil {z:Int} {B:Bool} {m:ByteArray} (h:EI z B m):(m.toList == (⟨#[]⟩:ByteArray).toList)=decide (z=0):=by
 have e:=mag_bool z.natAbs
 rw [← h.mag] at e
 have e2:(m.toList == (⟨#[]⟩:ByteArray).toList)=!(z.natAbs != 0):=by rw [← e,Bool.not_not]
 rw [e2]
 by_cases hz:z=0
 ·subst hz; rfl
 ·have:z.natAbs≠0:=by omega
  rw [decide_eq_false hz]
  simp [this]
theorem EI.nn {z:Int} {B:Bool} {m:ByteArray} (h:EI z B m):(!(m.toList == (⟨#[]⟩:ByteArray).toList))=decide (z≠0):=by
 rw [h.nil]; by_cases hz:z=0 <;> simp [hz]
theorem EI.size {z:Int} {B:Bool} {m:ByteArray} (h:EI z B m):m.size=nby z.natAbs:=by rw [h.mag,nb_size]
theorem EI.eta {z:Int} {B:Bool} {m:ByteArray} (h:EI z B m):m=nb (bnat m):=by rw [h.abs,h.mag]
theorem EI.small {z:Int} {B:Bool} {m:ByteArray} (h:EI z B m) (h7:m.size≤7):-72057594037927936 < z∧z < 72057594037927936:=by
 have:=small_z (i:=(B,m)) h7
 rw [h.val] at this
 exact this
theorem EI.same {x y:Int} {B D:Bool} {m k:ByteArray} (h:EI x B m) (h2:EI y D k) (e:B=D):Value.agg ⟨[.bool B,.string (nb (bnat m+bnat k))]⟩=encI (x+y):=by
 have h3:=h.sign
 have h4:=h2.sign
 rw [← e] at h4
 refine encI_mk ?_ ?_
 ·cases B
  ·have:=of_decide_eq_false h3.symm
   have:=of_decide_eq_false h4.symm
   exact (decide_eq_false (by omega)).symm
  ·have:=of_decide_eq_true h3.symm
   have:=of_decide_eq_true h4.symm
   exact (decide_eq_true (by omega)).symm
 ·rw [h.abs,h2.abs]
  cases B
  ·have:=of_decide_eq_false h3.symm
   have:=of_decide_eq_false h4.symm
   omega
  ·have:=of_decide_eq_true h3.symm
   have:=of_decide_eq_true h4.symm
   omega
theorem EI.differ {x y:Int} {B D:Bool} {m k:ByteArray} (h:EI x B m) (h2:EI y D k) (e:B≠D) (hlt:bnat k < bnat m):Value.agg ⟨[.bool B,.string (nb (bnat m - bnat k))]⟩=encI (x+y):=by
 have h3:=h.sign
 have h4:=h2.sign
 rw [h.abs,h2.abs] at hlt ⊢
 cases B <;> cases D
 ·exact absurd rfl e
 ·have:=of_decide_eq_false h3.symm
  have:=of_decide_eq_true h4.symm
  exact encI_mk (decide_eq_false (by omega)).symm (by omega)
 ·have:=of_decide_eq_true h3.symm
  have:=of_decide_eq_false h4.symm
  exact encI_mk (decide_eq_true (by omega)).symm (by omega)
 ·exact absurd rfl e
theorem EI.equal {x y:Int} {B D:Bool} {m k:ByteArray} (h:EI x B m) (h2:EI y D k) (e:B≠D) (hlt:bnat k=bnat m):x+y=0:=by
 have h3:=h.sign
 have h4:=h2.sign
 rw [h.abs,h2.abs] at hlt
 cases B <;> cases D
 ·exact absurd rfl e
 ·have:=of_decide_eq_false h3.symm
  have:=of_decide_eq_true h4.symm
  omega
 ·have:=of_decide_eq_true h3.symm
  have:=of_decide_eq_false h4.symm
  omega
 ·exact absurd rfl e
theorem EI.mul {x y:Int} {B D:Bool} {m k:ByteArray} (h:EI x B m) (h2:EI y D k) (hx:x≠0) (hy:y≠0):Value.agg ⟨[.bool (B != D),.string (nb (bnat m*bnat k))]⟩=encI (x*y):=by
 have h3:=h.sign
 have h4:=h2.sign
 rw [h.abs,h2.abs]
 refine encI_mk ?_ (by rw [Int.natAbs_mul])
 have hm:x*y < 0↔¬ ((x < 0)↔(y < 0)):=by
  rcases Int.lt_or_gt_of_ne hx with a | a <;> rcases Int.lt_or_gt_of_ne hy with b | b
  ·have:=Int.mul_pos_of_neg_of_neg a b
   constructor
   ·intro; omega
   ·intro h; exact absurd ⟨fun _=>b,fun _=>a⟩ h
  ·have:=Int.mul_neg_of_neg_of_pos a b
   constructor
   ·intro _ h; have:=h.1 a; omega
   ·intro; exact this
  ·have:=Int.mul_neg_of_pos_of_neg a b
   constructor
   ·intro _ h; have:=h.2 b; omega
   ·intro; exact this
  ·have:=Int.mul_pos a b
   constructor
   ·intro; omega
   ·intro h; exact absurd ⟨fun q=>by omega,fun q=>by omega⟩ h
 rw [h3,h4]
 by_cases a:x < 0 <;> by_cases b:y < 0 <;> simp [a,b,hm]
theorem EI.valI {z:Int} {B:Bool} {m:ByteArray} (h:EI z B m):Go.Ae.valI B (bnat m)=z:=h.val
theorem div_same {x y zq zr:Int} {B D:Bool} {m k:ByteArray} (hE:EI x B m) (hF:EI y D k) (hy:y≠0) (h:B=D) (hq:zq=((bnat m / bnat k:Nat):Int)) (hr:zr=((bnat m % bnat k:Nat):Int)) :
  zq=Int.fdiv x y∧(if D=true then -zr else zr)=Int.fmod x y:=by
 have hk:0 < bnat k:=by rw [hF.abs]; omega
 obtain ⟨h1,h2⟩:=div_floor (b:=B) (c:=D) (A:=bnat m) hk (.inr h)
 rw [hE.valI,hF.valI] at h1 h2
 rw [h1,h2,hq,hr,h]
 cases D <;> exact ⟨rfl,rfl⟩
theorem div_zero0 {x y zq zr:Int} {B D:Bool} {m k:ByteArray} (hE:EI x B m) (hF:EI y D k) (hy:y≠0) (h:B≠D) (hq:zq=((bnat m / bnat k:Nat):Int)) (hr:zr=((bnat m % bnat k:Nat):Int)) (h0:zr=0) :
  -zq=Int.fdiv x y∧(if D=true then -zr else zr)=Int.fmod x y:=by
 have hk:0 < bnat k:=by rw [hF.abs]; omega
 have h3:bnat m % bnat k=0:=by rw [h0] at hr; omega
 obtain ⟨h1,h2⟩:=div_floor (b:=B) (c:=D) (A:=bnat m) hk (.inl h3)
 rw [hE.valI,hF.valI] at h1 h2
 rw [h1,h2,hq,h0,h3]
 refine ⟨?_,?_⟩
 ·cases B <;> cases D
  ·exact absurd rfl h
  ·rfl
  ·rfl
  ·exact absurd rfl h
 ·cases B <;> cases D <;> rfl
theorem div_rest {x y zq zr:Int} {B D:Bool} {m k:ByteArray} (hE:EI x B m) (hF:EI y D k) (hy:y≠0) (h:B≠D) (hq:zq=((bnat m / bnat k:Nat):Int)) (hr:zr=((bnat m % bnat k:Nat):Int)) (h0:zr≠0) :
  -zq - 1=Int.fdiv x y∧(if D=true then -(((bnat k:Nat):Int) - zr) else ((bnat k:Nat):Int) - zr)=Int.fmod x y:=by
 have hk:0 < bnat k:=by rw [hF.abs]; omega
 obtain ⟨h1,h2⟩:=div_floor' (b:=B) (c:=D) (A:=bnat m) hk (by omega) h
 rw [hE.valI,hF.valI] at h1
 rw [hE.valI] at h2
 rw [hF.valI] at h2
 rw [h1,h2,hq,hr]
 refine ⟨?_,?_⟩
 ·cases B <;> cases D
  ·exact absurd rfl h
  ·rfl
  ·rfl
  ·exact absurd rfl h
 ·have hv:=hF.valI
  cases B <;> cases D
  ·exact absurd rfl h
  ·rw [← hv]; unfold Go.Ae.valI; simp only [if_true]; simp; omega
  ·rw [← hv]; unfold Go.Ae.valI; simp only [if_true]; simp; omega
  ·exact absurd rfl h
theorem EI.nonneg {z:Int} (h:0≤z):∃ m,EI z false m:=⟨_,(encI_mk (decide_eq_false (by omega)).symm rfl).symm,(decide_eq_false (by omega)).symm,rfl⟩
theorem wrap_nat {n:Nat} (h:n < 72057594037927936):IntKind.i64.wrap (n:Int)=n:=wrapi64 (by omega) (by omega)
theorem nby_mul_small {x y:Int} (h:nby x.natAbs+nby y.natAbs < 8):-9223372036854775808≤x*y∧x*y < 9223372036854775808:=by
 have h1:=lt_nby x.natAbs
 have h2:=lt_nby y.natAbs
 have h3:x.natAbs*y.natAbs < C ^ (nby x.natAbs+nby y.natAbs):=by
  rw [Nat.pow_add]
  exact Nat.lt_of_le_of_lt (Nat.mul_le_mul_right _ (Nat.le_of_lt h1)) (Nat.mul_lt_mul_of_pos_left h2 (Cpos _))
 have h4:=pow7 (i:=nby x.natAbs+nby y.natAbs) (by omega)
 rw [← Int.natAbs_mul] at h3
 omega
end Go.Ae
/- Rational numbers: their canonical form, and the contracts over it. -/
namespace Go.Ae
open Go
def denS (d:Nat):ByteArray:=if d=1 then ⟨#[]⟩ else nb d
/-- The canonical number of a value. -/
def encQ (q:Rat):Value:=.agg ⟨[.bool (decide (q.num < 0)),.string (nb q.num.natAbs),.string (denS q.den)]⟩
abbrev RV:=Bool × ByteArray × ByteArray
def RV.v (i:RV):Value:=.agg ⟨[.bool i.1,.string i.2.1,.string i.2.2]⟩
def RV.n (i:RV):Int:=valI i.1 (bnat i.2.1)
def RV.d (i:RV):Nat:=if bnat i.2.2=0 then 1 else bnat i.2.2
def RV.q (i:RV):Rat:=mkRat i.n i.d
def RV.ok (i:RV):Prop:=i.2.1.size≤8589934592∧i.2.2.size≤8589934592
def RV.of (q:Rat):RV:=(decide (q.num < 0),nb q.num.natAbs,denS q.den)
theorem RV.d_pos (i:RV):i.d≠0:=by
 unfold RV.d
 split <;> omega
theorem bnat_denS {d:Nat} (h:d≠0):(if bnat (denS d)=0 then 1 else bnat (denS d))=d:=by
 unfold denS
 split
 ·rename_i e; rw [e]; rfl
 ·rw [bnat_nb,if_neg h]
theorem RV.of_n (q:Rat):(RV.of q).n=q.num:=by
 exact encI_z q.num
theorem RV.of_d (q:Rat):(RV.of q).d=q.den:=bnat_denS q.den_nz
theorem RV.of_q (q:Rat):(RV.of q).q=q:=by
 unfold RV.q
 rw [RV.of_n,RV.of_d,Rat.mkRat_self]
theorem mk_num (n:Int) {d:Nat} (h:d≠0):n.fdiv ((Int.gcd n d:Nat):Int)=(mkRat n d).num:=by
 rw [Rat.num_mkRat,if_neg h,Int.fdiv_eq_ediv_of_nonneg _ (by omega)]
 rw [Int.gcd_comm]; rfl
theorem mk_den (n:Int) {d:Nat} (h:d≠0):((d:Nat):Int).fdiv ((Int.gcd n d:Nat):Int)=(((mkRat n d).den:Nat):Int):=by
 rw [Rat.den_mkRat,if_neg h,Int.fdiv_eq_ediv_of_nonneg _ (by omega),Int.natCast_ediv]
 rw [Int.gcd_comm]; rfl
theorem num_le (n:Int) {d:Nat} (h:d≠0):(mkRat n d).num.natAbs≤n.natAbs:=by
 rw [Rat.num_mkRat,if_neg h]
 exact Int.natAbs_ediv_le_natAbs n _
theorem den_le (n:Int) {d:Nat} (h:d≠0):(mkRat n d).den≤d:=by
 rw [Rat.den_mkRat,if_neg h]
 exact Nat.div_le_self _ _
/-- How many bytes a number takes at most. -/
def QB (q:Rat) (k:Nat):Prop:=nby q.num.natAbs≤k∧nby q.den≤k
theorem nby_mul (a b:Nat):nby (a*b)≤nby a+nby b:=nby_le (by
 rw [Nat.pow_add]
 exact Nat.lt_of_le_of_lt (Nat.mul_le_mul_right _ (Nat.le_of_lt (lt_nby a))) (Nat.mul_lt_mul_of_pos_left (lt_nby b) (Cpos _)))
theorem nby_add {a b k:Nat} (ha:nby a≤k) (hb:nby b≤k):nby (a+b)≤k+1:=nby_le (by
 have h1:=Nat.lt_of_lt_of_le (lt_nby a) (Nat.pow_le_pow_right (n:=C) (by decide) ha)
 have h2:=Nat.lt_of_lt_of_le (lt_nby b) (Nat.pow_le_pow_right (n:=C) (by decide) hb)
 rw [Nat.pow_succ]
 show _ < C ^ k*256
 omega)
theorem QB.mk {n:Int} {d k:Nat} (hd:d≠0) (h1:nby n.natAbs≤k) (h2:nby d≤k):QB (mkRat n d) k :=
 ⟨Nat.le_trans (nby_mono (num_le n hd)) h1,Nat.le_trans (nby_mono (den_le n hd)) h2⟩
theorem QB.mono {q:Rat} {k l:Nat} (h:QB q k) (hl:k≤l):QB q l:=⟨Nat.le_trans h.1 hl,Nat.le_trans h.2 hl⟩
theorem QB.add {p q:Rat} {k l:Nat} (hp:QB p k) (hq:QB q l):QB (p+q) (k+l+1):=by
 rw [Rat.add_def']
 refine QB.mk (Nat.mul_ne_zero p.den_nz q.den_nz) ?_ ?_
 ·have h1:nby (p.num*q.den).natAbs≤k+l:=by
   rw [Int.natAbs_mul]; exact Nat.le_trans (nby_mul _ _) (Nat.add_le_add hp.1 hq.2)
  have h2:nby (q.num*p.den).natAbs≤k+l:=by
   rw [Int.natAbs_mul]; exact Nat.le_trans (nby_mul _ _) (by rw [Nat.add_comm k]; exact Nat.add_le_add hq.1 hp.2)
  exact Nat.le_trans (nby_mono (Int.natAbs_add_le _ _)) (nby_add h1 h2)
 ·exact Nat.le_trans (nby_mul _ _) (Nat.le_succ_of_le (Nat.add_le_add hp.2 hq.2))
theorem QB.neg {p:Rat} {k:Nat} (hp:QB p k):QB (-p) k:=⟨by rw [Rat.neg_num,Int.natAbs_neg]; exact hp.1,hp.2⟩
theorem QB.sub {p q:Rat} {k l:Nat} (hp:QB p k) (hq:QB q l):QB (p - q) (k+l+1):=by
 rw [Rat.sub_eq_add_neg]; exact hp.add hq.neg
theorem QB.mul {p q:Rat} {k l:Nat} (hp:QB p k) (hq:QB q l):QB (p*q) (k+l):=by
 rw [Rat.mul_def']
 refine QB.mk (Nat.mul_ne_zero p.den_nz q.den_nz) ?_ (Nat.le_trans (nby_mul _ _) (Nat.add_le_add hp.2 hq.2))
 rw [Int.natAbs_mul]; exact Nat.le_trans (nby_mul _ _) (Nat.add_le_add hp.1 hq.1)
theorem RV.qb {i:RV} {k:Nat} (h1:i.2.1.size≤k) (h2:i.2.2.size≤k) (hk:1≤k):QB i.q k:=by
 refine QB.mk i.d_pos ?_ ?_
 ·unfold RV.n
  rw [valI_abs]
  exact Nat.le_trans (nby_bnat_le _) h1
 ·unfold RV.d
  split
  ·exact Nat.le_trans (nby_le (show 1 < C ^ 1 by decide)) hk
  ·exact Nat.le_trans (nby_bnat_le _) h2
theorem denS_size {d k:Nat} (h:nby d≤k):(denS d).size≤k:=by
 unfold denS
 split
 ·exact Nat.zero_le _
 ·rw [nb_size]; exact h
theorem RV.of_ok {q:Rat} (h:QB q 8589934592):(RV.of q).ok:=⟨by show (nb _).size≤_; rw [nb_size]; exact h.1,denS_size h.2⟩
end Go.Ae
/- Contracts of rational, and of the reference rationals. -/
namespace Go.Ae
open Go
def fracV (n d:IV):Value:=.agg ⟨[.bool n.1,.string n.2,.bool d.1,.string d.2]⟩
def isS:PSpec:={ ι:=IV × Int,args:=fun i=>[i.1.v,.int .i64 i.2],pre:=fun i=>i.1.ok∧-9223372036854775808≤i.2∧i.2 < 9223372036854775808,val:=fun i=>.bool (decide (i.1.z=i.2)) }
def integerS:PSpec:={ ι:=IV,args:=fun i=>[.bool i.1,.string i.2],pre:=fun _=>True,val:=fun i=>i.v }
/-- The denominator that stands in for none. -/
def RV.den (i:RV):ByteArray:=if bnat i.2.2=0 then nb 1 else i.2.2
def ofRS:PSpec:={ ι:=RV,args:=fun i=>[i.v],pre:=fun i=>i.2.2.size≤549755813888,val:=fun i=>fracV (i.1,i.2.1) (false,i.den) }
def numberS:PSpec:={ ι:=IV × IV,args:=fun i=>[fracV i.1 i.2],pre:=fun i=>i.1.ok∧i.2.ok∧0 < i.2.z,val:=fun i=>encQ (mkRat i.1.z i.2.z.natAbs) }
def reduceS:PSpec:={ ι:=IV × IV,args:=fun i=>[i.1.v,i.2.v],pre:=fun i=>i.1.ok∧i.2.ok∧0 < i.2.z,val:=fun i=>encQ (mkRat i.1.z i.2.z.natAbs) }
def RV.tiny (i:RV):Prop:=i.2.1.size≤3∧i.2.2.size≤3
instance (i:RV):Decidable i.tiny:=inferInstanceAs (Decidable (_∧_))
def machS:PSpec:={ ι:=RV,args:=fun i=>[i.v],pre:=fun _=>True,val:=fun i=>.tuple ⟨[.int .i64 (if i.tiny then i.n else 0),.int .i64 (if i.tiny then (i.d:Int) else 0),.bool (decide i.tiny)]⟩ }
def textS:PSpec:={ ι:=Nat,args:=fun n=>[.int .i64 n],pre:=fun n=>n < 72057594037927936,val:=fun n=>.string (nb n) }
def ratioS:PSpec:={ ι:=Int × Nat,args:=fun i=>[.int .i64 i.1,.int .i64 i.2],pre:=fun i=>i.1.natAbs < 72057594037927936∧i.2≠0∧i.2 < 72057594037927936,val:=fun i=>encQ (mkRat i.1 i.2) }
def partsS:PSpec:={ ι:=RV,args:=fun i=>[i.v],pre:=RV.ok,val:=fun i=>.tuple ⟨[encI i.n,encI i.d]⟩ }
abbrev RV2:=RV × RV
def RV2.ok (i:RV2):Prop:=i.1.ok∧i.2.ok
def cmpQ (p q:Rat):Int:=if p < q then -1 else if q < p then 1 else 0
def qaddS:PSpec:={ ι:=RV2,args:=fun i=>[i.1.v,i.2.v],pre:=RV2.ok,val:=fun i=>encQ (i.1.q+i.2.q) }
def qsubS:PSpec:={ ι:=RV2,args:=fun i=>[i.1.v,i.2.v],pre:=RV2.ok,val:=fun i=>encQ (i.1.q - i.2.q) }
def qmulS:PSpec:={ ι:=RV2,args:=fun i=>[i.1.v,i.2.v],pre:=RV2.ok,val:=fun i=>encQ (i.1.q*i.2.q) }
def qcmpS:PSpec:={ ι:=RV2,args:=fun i=>[i.1.v,i.2.v],pre:=RV2.ok,val:=fun i=>.int .i64 (cmpQ i.1.q i.2.q) }
def qnegS:PSpec:={ ι:=RV,args:=fun i=>[i.v],pre:=RV.ok,val:=fun i=>encQ (-i.q) }
def qnormS:PSpec:={ ι:=RV,args:=fun i=>[i.v],pre:=RV.ok,val:=fun i=>encQ i.q }
def qofS:PSpec:={ ι:=Int,args:=fun n=>[.int .i64 n],pre:=fun n=>-9223372036854775808≤n∧n < 9223372036854775808,val:=fun n=>encQ (n:Rat) }
theorem RV.tiny_n {i:RV} (h:i.tiny):-16777216 < i.n∧i.n < 16777216:=by
 have h1:=bnat_lt i.2.1
 have h2:C ^ i.2.1.size≤C ^ 3:=Nat.pow_le_pow_right (by decide) h.1
 have h3:bnat i.2.1 < 16777216:=Nat.lt_of_lt_of_le h1 h2
 unfold RV.n
 unfold valI
 split <;> omega
theorem RV.tiny_d {i:RV} (h:i.tiny):0 < i.d∧i.d < 16777216:=by
 have h1:=bnat_lt i.2.2
 have h2:C ^ i.2.2.size≤C ^ 3:=Nat.pow_le_pow_right (by decide) h.2
 have h3:bnat i.2.2 < 16777216:=Nat.lt_of_lt_of_le h1 h2
 unfold RV.d
 split <;> omega
theorem RV.den_z (i:RV):IV.z (false,i.den)=((i.d:Nat):Int):=by
 show ((bnat i.den:Nat):Int)=_
 unfold RV.den RV.d
 split
 ·rw [bnat_nb]
 ·rfl
theorem RV.den_size (i:RV):i.den.size≤i.2.2.size+1:=by
 unfold RV.den
 split
 ·exact Nat.le_trans nb_one (Nat.le_add_left _ _)
 ·exact Nat.le_succ _
theorem RV.q_of (i:RV):i.q=mkRat i.n (IV.z (false,i.den)).natAbs:=by rw [RV.den_z]; rfl
theorem mul_lt_tiny {a b:Int} (h1:-16777216 < a∧a < 16777216) (h2:0 < b∧b < 16777216):-281474976710656 < a*b∧a*b < 281474976710656:=by
 have h3:(a*b).natAbs≤16777215*16777215:=by
  rw [Int.natAbs_mul]
  exact Nat.mul_le_mul (by omega) (by omega)
 omega
theorem add_q (a b:RV):a.q+b.q=mkRat (a.n*b.d+b.n*a.d) (a.d*b.d):=Rat.mkRat_add_mkRat _ _ a.d_pos b.d_pos
theorem mul_q (a b:RV):a.q*b.q=mkRat (a.n*b.n) (a.d*b.d):=Rat.mkRat_mul_mkRat _ _ _ _
theorem divInt_q (i:RV):i.q=(i.n:Rat) / ((i.d:Nat):Rat):=Rat.mkRat_eq_div _ _
theorem natCast_pos {d:Nat} (h:d≠0):(0:Rat) < ((d:Nat):Rat):=by
 have:((0:Nat):Rat) < ((d:Nat):Rat):=Rat.natCast_lt_natCast.2 (by omega)
 exact this
theorem lt_q (a b:RV):a.q < b.q↔a.n*b.d < b.n*a.d:=by
 have ha:=natCast_pos a.d_pos
 have hb:=natCast_pos b.d_pos
 have e:a.q < b.q↔(a.n:Rat)*((b.d:Nat):Rat) < (b.n:Rat)*((a.d:Nat):Rat):=by
  rw [divInt_q,divInt_q,Rat.div_lt_iff ha]
  rw [show (b.n:Rat) / ((b.d:Nat):Rat)*((a.d:Nat):Rat)=((b.n:Rat)*((a.d:Nat):Rat)) / ((b.d:Nat):Rat) by
   rw [Rat.div_def,Rat.div_def]; grind]
  rw [Rat.lt_div_iff hb]
 rw [e,← Rat.intCast_natCast,← Rat.intCast_natCast,← Rat.intCast_mul,← Rat.intCast_mul,Rat.intCast_lt_intCast]
theorem cmp_q (a b:RV):cmpQ a.q b.q=cmpZ (a.n*b.d) (b.n*a.d):=by
 unfold cmpQ cmpZ
 simp only [lt_q]
theorem neg_q (i:RV):-i.q=RV.q (!i.1,i.2):=by
 show -mkRat i.n i.d=mkRat (valI (!i.1) (bnat i.2.1)) i.d
 rw [valI_neg,Rat.neg_mkRat]
 rfl
theorem of_q (n:Int):((n:Int):Rat)=mkRat n 1:=by
 have h:=Rat.mkRat_self ((n:Int):Rat)
 rw [Rat.num_intCast,Rat.den_intCast] at h
 exact h.symm
theorem shrk {n e:Nat} (k:Int) (hk:k=((8*e:Nat):Int)) (he:e≤7):Int.fdiv (n:Int) (2 ^ min (Int.toNat k) IntKind.i64.bits)=((n / C ^ e:Nat):Int):=by
 subst hk
 have e1:min (Int.toNat ((8*e:Nat):Int)) IntKind.i64.bits=8*e:=by
  show min (8*e) 64=8*e
  omega
 rw [e1]
 have e2:(2:Int) ^ (8*e)=((C ^ e:Nat):Int):=by
  rw [show C=2 ^ 8 from rfl,← Nat.pow_mul,Int.natCast_pow]; rfl
 rw [e2,Int.fdiv_eq_ediv_of_nonneg _ (Int.natCast_nonneg _),Int.natCast_ediv]
theorem pow7' {n:Nat} (h:n < 72057594037927936):n / C ^ 7=0:=Nat.div_eq_of_lt h
theorem push_lt {P d m:Nat} (h:P < C ^ m) (hd:d < 256):P*256+d < C ^ (m+1):=by
 rw [Nat.pow_succ]
 show _ < C ^ m*256
 omega
theorem push_ge {P d m:Nat} (h:C ^ (m - 1)≤P) (hm:1≤m):C ^ (m+1 - 1)≤P*256+d:=by
 rw [show m+1 - 1=m - 1+1 by omega,Nat.pow_succ]
 show C ^ (m - 1)*256≤_
 omega
theorem push_rows {P Q D m:Nat} {g:Nat→List Value} (h:P=Q*256+D) (hD:D < 256) (hg:∀ r,r < m→g r=[.int .u8 ((Q / C ^ (m - 1 - r) % C:Nat):Int)]) (r:Nat) (hr:r < m+1) :
  appGet g m (fun j=>[[Value.int .u8 ((P % C:Nat):Int)]].getD j []) r=[.int .u8 ((P / C ^ (m+1 - 1 - r) % C:Nat):Int)]:=by
 by_cases h1:r < m
 ·rw [appGet_lo h1,hg r h1,show m+1 - 1 - r=(m - 1 - r)+1 by omega,Nat.pow_succ,Nat.mul_comm (C ^ _) C,← Nat.div_div_eq_div_mul,show P / C=Q by rw [h]; show (Q*256+D) / 256=Q; omega]
 ·obtain rfl:r=m:=by omega
  rw [appGet_hi (Nat.le_refl _),Nat.sub_self,show r+1 - 1 - r=0 by omega,Nat.pow_zero,Nat.div_one]
  rfl
theorem encQ_mk {n:Int} {d g:Nat} (hn:n≠0) (hd:d≠0) (hg:g=Int.gcd n d):encQ (mkRat n d)=.agg ⟨[.bool (decide (n < 0)),.string (nb (n.natAbs / g)),.string (denS (d / g))]⟩:=by
 have hg0:0 < g:=by
  rw [hg]; exact Int.gcd_pos_of_ne_zero_left _ hn
 have e1:(mkRat n d).num=n / (g:Int):=by rw [← mk_num n hd,← hg,Int.fdiv_eq_ediv_of_nonneg _ (by omega)]
 have e2:(mkRat n d).den=d / g:=by
  have:=mk_den n hd
  rw [← hg,Int.fdiv_eq_ediv_of_nonneg _ (by omega),← Int.natCast_ediv] at this
  exact (Int.ofNat_inj.1 this).symm
 have hdv:(g:Int) ∣ n:=by rw [hg]; exact Int.gcd_dvd_left ..
 obtain ⟨q,hq⟩:=hdv
 have e3:n / (g:Int)=q:=by rw [hq]; exact Int.mul_ediv_cancel_left _ (by omega)
 have e4:n.natAbs / g=q.natAbs:=by
  rw [hq,Int.natAbs_mul,Int.natAbs_natCast]; exact Nat.mul_div_cancel_left _ hg0
 have e5:n < 0↔q < 0:=by
  rw [hq]
  constructor
  ·intro h
   rcases Int.lt_or_le q 0 with h2 | h2
   ·exact h2
   ·have:=Int.mul_nonneg (show (0:Int)≤g by omega) h2
    omega
  ·intro h; exact Int.mul_neg_of_pos_of_neg (by omega) h
 unfold encQ
 rw [e1,e2,e3,e4]
 rw [show decide (n < 0)=decide (q < 0) from by simp only [e5]]
theorem encQ_zero (d:Nat):encQ (mkRat 0 d)=.agg ⟨[.bool false,.string ⟨#[]⟩,.string ⟨#[]⟩]⟩:=by
 rw [Rat.zero_mkRat]
 show Value.agg ⟨[.bool false,.string (nb 0),.string (denS 1)]⟩=_
 rw [nb_zero]
 rfl
theorem gcd_step {a b:Int}:Int.gcd b (a.tmod b)=Int.gcd a b:=by
 show Nat.gcd b.natAbs (a.tmod b).natAbs=Nat.gcd a.natAbs b.natAbs
 rw [Int.natAbs_tmod,Nat.gcd_comm,← Nat.gcd_rec,Nat.gcd_comm]
theorem max_neg (a:Int) (h:-72057594037927936 < a∧a < 72057594037927936):(if IntKind.i64.wrap (0 - a) > a then IntKind.i64.wrap (0 - a) else a)=((a.natAbs:Nat):Int):=by
 rw [wrapi64 (x:=0 - a) (by omega) (by omega)]
 split <;> omega
theorem tdiv_wrap {a g:Nat} (h:a < 72057594037927936):IntKind.i64.wrap (Int.tdiv (a:Int) (g:Int))=((a / g:Nat):Int):=by
 rw [tdiv_nat]; exact wrap_nat (Nat.lt_of_le_of_lt (Nat.div_le_self _ _) h)
theorem div_self_gcd {n:Int} {d g:Nat} (hd:d≠0) (hg:g=Int.gcd n d):(d / g=1↔d=g)∧1≤d / g∧g≠0:=by
 have hdv:g ∣ d:=by
  have:((g:Nat):Int) ∣ (d:Int):=by rw [hg]; exact Int.gcd_dvd_right ..
  exact Int.natCast_dvd_natCast.1 this
 have hg0:0 < g:=Nat.pos_of_dvd_of_pos hdv (Nat.pos_of_ne_zero hd)
 obtain ⟨q,rfl⟩:=hdv
 rw [Nat.mul_div_cancel_left _ hg0]
 have hq:q≠0:=by intro e; subst e; exact hd (Nat.mul_zero _)
 refine ⟨⟨fun h=>by rw [h,Nat.mul_one],fun h=>?_⟩,by omega,by omega⟩
 have:g*q=g*1:=by rw [Nat.mul_one]; exact h
 exact Nat.eq_of_mul_eq_mul_left hg0 this
theorem r0:-9223372036854775808≤(0:Int)∧(0:Int) < 9223372036854775808:=by decide
theorem r1:-9223372036854775808≤(1:Int)∧(1:Int) < 9223372036854775808:=by decide
theorem nby_i64 {n:Int} (h:-9223372036854775808≤n∧n < 9223372036854775808):nby n.natAbs≤8:=nby_le (Nat.lt_of_le_of_lt (show n.natAbs≤9223372036854775808 by omega) (by decide))
theorem digit_split (n e:Nat):n / C ^ e=n / C ^ (e+1)*256+n / C ^ e % 256:=by
 have:=div_pow_succ n e
 omega
/-! what is made of four machine integers, or of two fractions -/
abbrev I4:=(Int × Nat) × (Int × Nat)
def I4.args (i:I4):List Value:=[.int .i64 i.1.1,.int .i64 i.1.2,.int .i64 i.2.1,.int .i64 i.2.2]
def tinyR (i:Int × Nat):Prop:=(-16777216 < i.1∧i.1 < 16777216)∧0 < i.2∧i.2 < 16777216
def I4.ok (i:I4):Prop:=tinyR i.1∧tinyR i.2
def add1S:PSpec:={ ι:=I4,args:=I4.args,pre:=I4.ok,val:=fun i=>encQ (mkRat (i.1.1*i.2.2+i.2.1*i.1.2) (i.1.2*i.2.2)) }
def mul1S:PSpec:={ ι:=I4,args:=I4.args,pre:=I4.ok,val:=fun i=>encQ (mkRat (i.1.1*i.2.1) (i.1.2*i.2.2)) }
def cmp1S:PSpec:={ ι:=I4,args:=I4.args,pre:=I4.ok,val:=fun i=>.int .i64 (cmpZ (i.1.1*i.2.2) (i.2.1*i.1.2)) }
abbrev FV:=(IV × IV) × (IV × IV)
def FV.args (i:FV):List Value:=[fracV i.1.1 i.1.2,fracV i.2.1 i.2.2]
def fracOk (i:IV × IV):Prop:=(i.1.2.size≤17179869184∧i.2.2.size≤17179869184)∧0 < i.2.z
def FV.ok (i:FV):Prop:=fracOk i.1∧fracOk i.2
def add2S:PSpec:={ ι:=FV,args:=FV.args,pre:=FV.ok,val:=fun i=>encQ (mkRat (i.1.1.z*i.2.2.z+i.2.1.z*i.1.2.z) (i.1.2.z*i.2.2.z).natAbs) }
def mul2S:PSpec:={ ι:=FV,args:=FV.args,pre:=FV.ok,val:=fun i=>encQ (mkRat (i.1.1.z*i.2.1.z) (i.1.2.z*i.2.2.z).natAbs) }
def cmp2S:PSpec:={ ι:=FV,args:=FV.args,pre:=FV.ok,val:=fun i=>.int .i64 (cmpZ (i.1.1.z*i.2.2.z) (i.2.1.z*i.1.2.z)) }
theorem I4.bounds {i:I4} (h:i.ok):(-281474976710656 < i.1.1*i.2.2∧i.1.1*i.2.2 < 281474976710656)∧(-281474976710656 < i.2.1*i.1.2∧i.2.1*i.1.2 < 281474976710656)∧(-281474976710656 < i.1.1*i.2.1∧i.1.1*i.2.1 < 281474976710656)∧0 < i.1.2*i.2.2∧i.1.2*i.2.2 < 281474976710656:=by
 obtain ⟨⟨h1,h2⟩,h3,h4⟩:=h
 refine ⟨mul_lt_tiny h1 ⟨by omega,by omega⟩,mul_lt_tiny h3 ⟨by omega,by omega⟩,?_,Nat.mul_pos h2.1 h4.1,?_⟩
 ·have:(i.1.1*i.2.1).natAbs≤16777215*16777215:=by
   rw [Int.natAbs_mul]
   exact Nat.mul_le_mul (by omega) (by omega)
  omega
 ·have:i.1.2*i.2.2≤16777215*16777215:=Nat.mul_le_mul (by omega) (by omega)
  omega
/-- A product's digits. -/
theorem EI.mul_size {x y:Int} {B:Bool} {m:ByteArray} {k l:Nat} (h:EI (x*y) B m) (hx:nby x.natAbs≤k) (hy:nby y.natAbs≤l):m.size≤k+l:=by
 rw [h.size,Int.natAbs_mul]
 exact Nat.le_trans (nby_mul _ _) (Nat.add_le_add hx hy)
theorem EI.add_size {x y:Int} {B:Bool} {m:ByteArray} {k:Nat} (h:EI (x+y) B m) (hx:nby x.natAbs≤k) (hy:nby y.natAbs≤k):m.size≤k+1:=by
 rw [h.size]
 exact Nat.le_trans (nby_mono (Int.natAbs_add_le _ _)) (nby_add hx hy)
theorem nby_z {b:Bool} {s:ByteArray} {k:Nat} (h:s.size≤k):nby (IV.z (b,s)).natAbs≤k:=by
 unfold IV.z
 rw [valI_abs]
 exact Nat.le_trans (nby_bnat_le s) h
/-- The two arguments of a function of rationals, as the fast and the slow way see them. -/
theorem RV.tinyR {i:RV} (h:i.tiny):Go.Ae.tinyR (i.n,i.d):=⟨i.tiny_n h,i.tiny_d h⟩
theorem RV.fracOk {i:RV} (h:i.ok):Go.Ae.fracOk ((i.1,i.2.1),(false,i.den)):=⟨⟨by have:=h.1; show i.2.1.size≤_; omega,by have:=i.den_size; have:=h.2; show i.den.size≤_; omega⟩,by
 show 0 < IV.z (false,i.den)
 rw [RV.den_z]
 have:=i.d_pos
 omega⟩
theorem add1_q (a b:RV):add1S.val ((a.n,a.d),(b.n,b.d))=encQ (a.q+b.q):=by rw [add_q]; rfl
theorem mul1_q (a b:RV):mul1S.val ((a.n,a.d),(b.n,b.d))=encQ (a.q*b.q):=by rw [mul_q]; rfl
theorem cmp1_q (a b:RV):cmp1S.val ((a.n,a.d),(b.n,b.d))=.int .i64 (cmpQ a.q b.q):=by rw [cmp_q]; rfl
theorem den_mul_abs (a b:RV):(IV.z (false,a.den)*IV.z (false,b.den)).natAbs=a.d*b.d:=by
 rw [RV.den_z,RV.den_z,← Int.natCast_mul,Int.natAbs_natCast]
theorem add2_q (a b:RV):add2S.val (((a.1,a.2.1),(false,a.den)),((b.1,b.2.1),(false,b.den)))=encQ (a.q+b.q):=by
 show encQ (mkRat (IV.z (a.1,a.2.1)*IV.z (false,b.den)+IV.z (b.1,b.2.1)*IV.z (false,a.den)) (IV.z (false,a.den)*IV.z (false,b.den)).natAbs)=_
 rw [den_mul_abs,RV.den_z,RV.den_z,add_q]
 rfl
theorem mul2_q (a b:RV):mul2S.val (((a.1,a.2.1),(false,a.den)),((b.1,b.2.1),(false,b.den)))=encQ (a.q*b.q):=by
 show encQ (mkRat (IV.z (a.1,a.2.1)*IV.z (b.1,b.2.1)) (IV.z (false,a.den)*IV.z (false,b.den)).natAbs)=_
 rw [den_mul_abs,mul_q]
 rfl
theorem cmp2_q (a b:RV):cmp2S.val (((a.1,a.2.1),(false,a.den)),((b.1,b.2.1),(false,b.den)))=.int .i64 (cmpQ a.q b.q):=by
 show Value.int .i64 (cmpZ (IV.z (a.1,a.2.1)*IV.z (false,b.den)) (IV.z (b.1,b.2.1)*IV.z (false,a.den)))=_
 rw [RV.den_z,RV.den_z,cmp_q]
 rfl
end Go.Ae
/- Contracts of rational: signs, checks, quotients. -/
namespace Go.Ae
open Go
def qsignS:PSpec:={ ι:=RV,args:=fun i=>[i.v],pre:=RV.ok,val:=fun i=>.int .i64 (cmpQ i.q 0) }
def quoV (n d:Int):Value:=.tuple ⟨[encQ (Rat.divInt n d),.int .i64 (if d=0 then 10 else 0)]⟩
def qnewS:PSpec:={ ι:=IV2,args:=fun i=>[i.1.v,i.2.v],pre:=IV2.ok,val:=fun i=>quoV i.1.z i.2.z }
theorem sign_q (i:RV):cmpQ i.q 0=cmpZ i.n 0:=by
 have h:=cmp_q i (RV.of 0)
 rw [RV.of_q,RV.of_n,RV.of_d] at h
 rw [h]
 show cmpZ (i.n*1) (0*_)=_
 rw [Int.mul_one,Int.zero_mul]
theorem eqCells_rat (i j:RV):eqCells [.bool i.1,.string i.2.1,.string i.2.2] [.bool j.1,.string j.2.1,.string j.2.2]=decide (i=j):=by
 obtain ⟨a,b,c⟩:=i
 obtain ⟨a',b',c'⟩:=j
 simp only [eqCells,Bool.and_true,str_eq]
 by_cases h1:a=a' <;> by_cases h2:b=b' <;> by_cases h3:c=c' <;> simp [h1,h2,h3]
theorem divInt_pos {n d:Int} (h:0 < d):Rat.divInt n d=mkRat n d.natAbs:=by
 obtain ⟨k,rfl⟩:∃ k:Nat,d=k:=⟨d.natAbs,by omega⟩
 rw [Rat.divInt_ofNat,Int.natAbs_natCast]
theorem divInt_negs {n d:Int} (h:d < 0):Rat.divInt n d=mkRat (-n) (-d).natAbs:=by
 rw [← Rat.neg_divInt_neg,divInt_pos (by omega)]
theorem neg_q' (b:Bool) (s t:ByteArray):RV.q (!b,s,t)=-RV.q (b,s,t):=(neg_q (b,s,t)).symm
theorem encQ0:encQ 0=.agg ⟨[.bool false,.string ⟨#[]⟩,.string ⟨#[]⟩]⟩:=by
 have:=encQ_zero 1
 rwa [Rat.zero_mkRat] at this
def absQ (q:Rat):Rat:=if q < 0 then -q else q
def RV.great (i:RV):Prop:=60 < i.2.1.size∨60 < i.2.2.size
instance (i:RV):Decidable i.great:=inferInstanceAs (Decidable (_∨_))
theorem cmpQ_pos {p q:Rat}:cmpQ p q > 0↔q < p:=by
 unfold cmpQ
 split
 ·rename_i h
  constructor
  ·intro h2; exact absurd h2 (by decide)
  ·intro h2; grind
 ·split
  ·exact ⟨fun _=>by assumption,fun _=>by decide⟩
  ·exact ⟨fun h=>absurd h (by decide),fun h=>by contradiction⟩
theorem cmpQ_neg {p q:Rat}:cmpQ p q < 0↔p < q:=by
 unfold cmpQ
 split
 ·exact ⟨fun _=>by assumption,fun _=>by decide⟩
 ·split
  ·exact ⟨fun h=>absurd h (by decide),fun h=>by contradiction⟩
  ·exact ⟨fun h=>absurd h (by decide),fun h=>by contradiction⟩
theorem nb_1:nb 1=⟨#[1]⟩:=by
 rw [nb_be (n:=1) (by decide) (.inr (by decide))]
 rfl
end Go.Ae
/- Points: their canonical form, and the contracts over it. -/
namespace Go.Ae
open Go
abbrev PV:=RV × RV
def PV.cells (p:PV):List Value:=[.bool p.1.1,.string p.1.2.1,.string p.1.2.2,.bool p.2.1,.string p.2.2.1,.string p.2.2.2]
def PV.v (p:PV):Value:=.agg ⟨[.bool p.1.1,.string p.1.2.1,.string p.1.2.2,.bool p.2.1,.string p.2.2.1,.string p.2.2.2]⟩
def encP (x y:Rat):Value:=PV.v (RV.of x,RV.of y)
def RV.sz (k:Nat) (i:RV):Prop:=i.2.1.size≤k∧i.2.2.size≤k
def PV.sz (k:Nat) (p:PV):Prop:=p.1.sz k∧p.2.sz k
theorem RV.sz_ok {k:Nat} {i:RV} (h:i.sz k) (hk:k≤8589934592):i.ok:=⟨Nat.le_trans h.1 hk,Nat.le_trans h.2 hk⟩
theorem RV.sz_mono {k l:Nat} {i:RV} (h:i.sz k) (hk:k≤l):i.sz l:=⟨Nat.le_trans h.1 hk,Nat.le_trans h.2 hk⟩
theorem PV.sz_mono {k l:Nat} {i:PV} (h:i.sz k) (hk:k≤l):i.sz l:=⟨RV.sz_mono h.1 hk,RV.sz_mono h.2 hk⟩
theorem RV.of_sz {q:Rat} {k:Nat} (h:QB q k):(RV.of q).sz k:=⟨by show (nb _).size≤_; rw [nb_size]; exact h.1,denS_size h.2⟩
theorem RV.qb' {i:RV} {k:Nat} (h:i.sz k) (hk:1≤k):QB i.q k:=RV.qb h.1 h.2 hk
def maxQ (a b:Rat):Rat:=if a < b then b else a
def minQ (a b:Rat):Rat:=if b < a then b else a
def cmpP (a b:PV):Int:=if cmpQ a.1.q b.1.q≠0 then cmpQ a.1.q b.1.q else cmpQ a.2.q b.2.q
abbrev PV2:=PV × PV
def ok1:Int→Prop:=fun n=>-9223372036854775808≤n∧n < 9223372036854775808
def vofS:PSpec:={ ι:=Int × Int,args:=fun i=>[.int .i64 i.1,.int .i64 i.2],pre:=fun i=>ok1 i.1∧ok1 i.2,val:=fun i=>encP (i.1:Rat) (i.2:Rat) }
def pok (i:PV2):Prop:=i.1.sz 8589934592∧i.2.sz 8589934592
def vaddS:PSpec:={ ι:=PV2,args:=fun i=>[i.1.v,i.2.v],pre:=pok,val:=fun i=>encP (i.1.1.q+i.2.1.q) (i.1.2.q+i.2.2.q) }
def vsubS:PSpec:={ ι:=PV2,args:=fun i=>[i.1.v,i.2.v],pre:=pok,val:=fun i=>encP (i.1.1.q - i.2.1.q) (i.1.2.q - i.2.2.q) }
def vscaleS:PSpec:={ ι:=PV × RV,args:=fun i=>[i.1.v,i.2.v],pre:=fun i=>i.1.sz 8589934592∧i.2.sz 8589934592,val:=fun i=>encP (i.1.1.q*i.2.q) (i.1.2.q*i.2.q) }
def pok1 (i:PV2):Prop:=i.1.sz 1073741824∧i.2.sz 1073741824
def dotQ (p q:PV):Rat:=p.1.q*q.1.q+p.2.q*q.2.q
def crossQ (p q:PV):Rat:=p.1.q*q.2.q - p.2.q*q.1.q
def vdotS:PSpec:={ ι:=PV2,args:=fun i=>[i.1.v,i.2.v],pre:=pok1,val:=fun i=>encQ (dotQ i.1 i.2) }
def vcrossS:PSpec:={ ι:=PV2,args:=fun i=>[i.1.v,i.2.v],pre:=pok1,val:=fun i=>encQ (crossQ i.1 i.2) }
def PV.canon (p:PV):Prop:=p.1=RV.of p.1.q∧p.2=RV.of p.2.q
instance (p:PV):Decidable p.canon:=inferInstanceAs (Decidable (_∧_))
def vcheckS:PSpec:={ ι:=PV,args:=fun i=>[i.v],pre:=fun i=>i.sz 8589934592,val:=fun i=>.int .i64 (if i.canon then 0 else 1) }
def vcmpS:PSpec:={ ι:=PV2,args:=fun i=>[i.1.v,i.2.v],pre:=pok,val:=fun i=>.int .i64 (cmpP i.1 i.2) }
def pok0 (i:PV2):Prop:=i.1.sz 268435456∧i.2.sz 268435456
def vatS:PSpec:={ ι:=PV2 × RV,args:=fun i=>[i.1.1.v,i.1.2.v,i.2.v],pre:=fun i=>pok0 i.1∧i.2.sz 268435456,val:=fun i=>encP (i.1.1.1.q+(i.1.2.1.q - i.1.1.1.q)*i.2.q) (i.1.1.2.q+(i.1.2.2.q - i.1.1.2.q)*i.2.q) }
def vnormS:PSpec:={ ι:=PV,args:=fun i=>[i.v],pre:=fun i=>i.sz 8589934592,val:=fun i=>encP i.1.q i.2.q }
def PV.great (p:PV):Prop:=p.1.great∨p.2.great
instance (p:PV):Decidable p.great:=inferInstanceAs (Decidable (_∨_))
theorem eqCells_pt (p q:PV):eqCells p.cells q.cells=decide (p=q):=by
 obtain ⟨⟨a,b,c⟩,⟨d,e,f⟩⟩:=p
 obtain ⟨⟨a',b',c'⟩,⟨d',e',f'⟩⟩:=q
 simp only [PV.cells,eqCells,Bool.and_true,str_eq]
 by_cases h1:a=a' <;> by_cases h2:b=b' <;> by_cases h3:c=c' <;> by_cases h4:d=d' <;> by_cases h5:e=e' <;> by_cases h6:f=f' <;> simp [h1,h2,h3,h4,h5,h6]
/-- The rows of a list of rationals, or of points. -/
def RV.cells (i:RV):List Value:=[.bool i.1,.string i.2.1,.string i.2.2]
def rowsP (l:List PV):Nat→List Value:=fun r=>(l.getD r ((false,⟨#[]⟩,⟨#[]⟩),(false,⟨#[]⟩,⟨#[]⟩))).cells
theorem blk_rows {o:Bool} {n k:Nat} {g:Nat→List Value} {rows:List (List Value)} (h1:rows.length=n) (h2:∀ r,r < n→rows.getD r []=g r) (h3:∀ r,r < n→allS (g r)=true):BlkLe (.flat false n k g) (.expl o k rows) :=
 ⟨(fun h=>by cases h),rfl,by show n≤rows.length; omega,fun r hr=>by
  show g r=rows.getD r []
  exact (h2 r hr).symm,fun r hr v hv=>allS_spec (h3 r hr) v hv⟩
theorem rowsP_allS (l:List PV) (r:Nat):allS (rowsP l r)=true:=rfl
end Go.Ae
/- Contracts of rational: quotients of rationals. -/
namespace Go.Ae
open Go
def qquoS:PSpec:={ ι:=RV2,args:=fun i=>[i.1.v,i.2.v],pre:=RV2.ok,val:=fun i=>.tuple ⟨[encQ (i.1.q / i.2.q),.int .i64 (if i.2.q=0 then 10 else 0)]⟩ }
theorem q_zero_iff (b:RV):b.q=0↔b.n=0:=by
 have hb:=natCast_pos b.d_pos
 rw [divInt_q,Rat.div_def]
 constructor
 ·intro h
  rcases Rat.mul_eq_zero.1 h with h | h
  ·exact_mod_cast h
  ·exfalso
   have h2:((b.d:Nat):Rat)*((b.d:Nat):Rat)⁻¹=1:=Rat.mul_inv_cancel _ (by grind)
   rw [h] at h2
   grind
 ·intro h
  rw [h]
  simp
theorem quo_q (a b:RV):quoV (a.n*b.d) (a.d*b.n)=.tuple ⟨[encQ (a.q / b.q),.int .i64 (if b.q=0 then 10 else 0)]⟩:=by
 have ha:=natCast_pos a.d_pos
 have hb:=natCast_pos b.d_pos
 have e1:Rat.divInt (a.n*b.d) (a.d*b.n)=a.q / b.q:=by
  rw [Rat.divInt_eq_div,divInt_q a,divInt_q b,Rat.intCast_mul,Rat.intCast_mul,Rat.intCast_natCast,Rat.intCast_natCast]
  by_cases h:(b.n:Rat)=0
  ·rw [h]; simp [Rat.div_def]
  ·grind
 have e2:((a.d:Int)*b.n=0)↔b.q=0:=by
  rw [q_zero_iff]
  constructor
  ·intro h
   rcases Int.mul_eq_zero.1 h with h | h
   ·have:=a.d_pos; omega
   ·exact h
  ·intro h; rw [h]; simp
 unfold quoV
 rw [e1]
 simp only [e2]
end Go.Ae
/- Points: lists. -/
namespace Go.Ae
open Go
theorem rowsP_get {l:List PV} {i:Nat} (h:i < l.length):∃ p,l[i]?=some p∧p∈l∧rowsP l i=p.cells:=by
 refine ⟨l[i],List.getElem?_eq_getElem h,List.getElem_mem h,?_⟩
 unfold rowsP
 rw [List.getD_eq_getElem?_getD,List.getElem?_eq_getElem h]
 rfl
theorem cmpQ_one {p q:Rat}:cmpQ p q=1↔q < p:=by
 unfold cmpQ
 split
 ·rename_i h
  exact ⟨fun h2=>absurd h2 (by decide),fun h2=>by grind⟩
 ·split
  ·exact ⟨fun _=>by assumption,fun _=>rfl⟩
  ·exact ⟨fun h=>absurd h (by decide),fun h=>by contradiction⟩
theorem cmpQ_mone {p q:Rat}:cmpQ p q=-1↔p < q:=by
 unfold cmpQ
 split
 ·exact ⟨fun _=>by assumption,fun _=>rfl⟩
 ·split
  ·exact ⟨fun h=>absurd h (by decide),fun h=>by contradiction⟩
  ·exact ⟨fun h=>absurd h (by decide),fun h=>by contradiction⟩
theorem QB.max {p q:Rat} {k:Nat} (hp:QB p k) (hq:QB q k):QB (maxQ p q) k:=by
 unfold maxQ; split <;> assumption
theorem QB.min {p q:Rat} {k:Nat} (hp:QB p k) (hq:QB q k):QB (minQ p q) k:=by
 unfold minQ; split <;> assumption
theorem QB.abs {p:Rat} {k:Nat} (hp:QB p k):QB (absQ p) k:=by
 unfold absQ; split
 ·exact hp.neg
 ·exact hp
/-! boxes -/
abbrev XV:=PV × PV
def XV.v (b:XV):Value:=.agg ⟨[.bool b.1.1.1,.string b.1.1.2.1,.string b.1.1.2.2,.bool b.1.2.1,.string b.1.2.2.1,.string b.1.2.2.2,.bool b.2.1.1,.string b.2.1.2.1,.string b.2.1.2.2,.bool b.2.2.1,.string b.2.2.2.1,.string b.2.2.2.2]⟩
def XV.cells (b:XV):List Value:=[.bool b.1.1.1,.string b.1.1.2.1,.string b.1.1.2.2,.bool b.1.2.1,.string b.1.2.2.1,.string b.1.2.2.2,.bool b.2.1.1,.string b.2.1.2.1,.string b.2.1.2.2,.bool b.2.2.1,.string b.2.2.2.1,.string b.2.2.2.2]
def inBox (b:XV) (p:PV):Prop:=b.1.1.q≤p.1.q∧p.1.q≤b.2.1.q∧b.1.2.q≤p.2.q∧p.2.q≤b.2.2.q
instance (b:XV) (p:PV):Decidable (inBox b p):=inferInstanceAs (Decidable (_∧_∧_∧_))
def vwithinS:PSpec:={ ι:=XV × PV,args:=fun i=>[i.1.v,i.2.v],pre:=fun i=>(i.1.1.sz 268435456∧i.1.2.sz 268435456)∧i.2.sz 268435456,val:=fun i=>.bool (decide (inBox i.1 i.2)) }
theorem cmpQ_le {p q:Rat}:cmpQ p q≤0↔p≤q:=by
 have:=cmpQ_pos (p:=p) (q:=q)
 constructor
 ·intro h; have:¬ q < p:=fun e=>by have:=this.2 e; omega
  grind
 ·intro h; have:¬ cmpQ p q > 0:=fun e=>by have:=this.1 e; grind
  omega
theorem cmpQ_ge {p q:Rat}:cmpQ p q ≥ 0↔q≤p:=by
 have:=cmpQ_neg (p:=p) (q:=q)
 constructor
 ·intro h; have:¬ p < q:=fun e=>by have:=this.2 e; omega
  grind
 ·intro h; have:¬ cmpQ p q < 0:=fun e=>by have:=this.1 e; grind
  omega
end Go.Ae
/- The laws of vectors: what the statements' functions answer. -/
namespace Go.Ae
open Go
instance (n:Int):Decidable (ok1 n):=inferInstanceAs (Decidable (_∧_))
def awakeS:PSpec:={ ι:=Unit,args:=fun _=>[],pre:=fun _=>True,val:=fun _=>.bool true }
def zeroR:RV:=(false,⟨#[]⟩,⟨#[]⟩)
theorem zeroR_sz (k:Nat):zeroR.sz k:=⟨Nat.zero_le _,Nat.zero_le _⟩
/-! the chapter's example -/
theorem ex_nby {n:Int} (h:n.natAbs < 256):QB (n:Rat) 1:=by
 have e1:(n:Rat).num=n:=Rat.num_intCast n
 have e2:(n:Rat).den=1:=Rat.den_intCast n
 refine ⟨?_,?_⟩
 ·rw [e1]; exact nby_le (show n.natAbs < C ^ 1 from h)
 ·rw [e2]; exact nby_le (show 1 < C ^ 1 by decide)
end Go.Ae
/- Points: bounds of lists. -/
namespace Go.Ae
open Go
/-- A list of points as a function gets it: nil, or a slice over a block. -/
abbrev PL:=Option (List PV × Nat)
def PL.val:PL→Value
 | none=>.slice none 0 0
 | some i=>.slice (some ⟨0,0,none⟩) i.1.length i.2
def PL.blks:PL→List Blk
 | none=>[]
 | some i=>[.flat false i.1.length 6 (rowsP i.1)]
def PL.list:PL→List PV
 | none=>[]
 | some i=>i.1
def PL.ok (i:PL):Prop:=i.list.length≤9223372036854775807
theorem zeroR_q:zeroR.q=0:=by
 show mkRat (valI false (bnat ⟨#[]⟩)) _=0
 exact Rat.zero_mkRat _
end Go.Ae
/- The laws of vectors: boxes. -/
namespace Go.Ae
open Go
end Go.Ae
/- The laws of vectors: bounds, and lists turned around. -/
namespace Go.Ae
open Go
/-- The bound of some points. -/
structure Bounds (l:List PV) (X:XV):Prop where
 inb:∀ p∈l,vwithinS.val (X,p)=.bool true
 sz:X.1.sz 268435456∧X.2.sz 268435456
 c1:vcheckS.val X.1=.int .i64 0
 c2:vcheckS.val X.2=.int .i64 0
 l1:∃ p∈l,p.1.q=X.1.1.q
 l2:∃ p∈l,p.1.q=X.2.1.q
 l3:∃ p∈l,p.2.q=X.1.2.q
 l4:∃ p∈l,p.2.q=X.2.2.q
theorem cmpQ_zero {p q:Rat}:cmpQ p q=0↔p=q:=by
 have h1:=cmpQ_le (p:=p) (q:=q)
 have h2:=cmpQ_ge (p:=p) (q:=q)
 constructor
 ·intro h; have:=h1.1 (by omega); have:=h2.1 (by omega); grind
 ·intro h; have:=h1.2 (by grind); have:=h2.2 (by grind); omega
/-- slices.Clone of points; slices.Reverse of points. -/
def cloneS:QSpec:={ ι:=PL,args:=fun i=>[i.val],blks:=fun i=>i.blks,pre:=fun i=>i.list.length≤1099511627776,val:=fun i=>match i with | none=>.slice none 0 0 | some i=>.slice (some ⟨1,0,none⟩) i.1.length capU,new:=fun i=>match i with | none=>none | some i=>some (.flat true i.1.length 6 (rowsP i.1)) }
theorem BlkLe.flat_rows {o o':Bool} {n e:Nat} {g f:Nat→List Value} (h:o=true→o'=true) (hf:∀ r,r < n→f r=g r) (hs:∀ r,r < n→allS (g r)=true):BlkLe (.flat o n e g) (.flat o' n e f) :=
 ⟨fun ho=>⟨h ho,rfl⟩,rfl,Nat.le_refl _,fun r hr=>(hf r hr).symm,fun r hr v hv=>allS_spec (hs r hr) v hv⟩
end Go.Ae
/- Contracts of predicate, over rationals. -/
namespace Go.Ae
open Go
abbrev Q2:=Rat × Rat
def PV.p (a:PV):Q2:=(a.1.q,a.2.q)
def ptV (p:Q2):PV:=(RV.of p.1,RV.of p.2)
theorem ptV_p (p:Q2):(ptV p).p=p:=by
 show ((RV.of p.1).q,(RV.of p.2).q)=p
 rw [RV.of_q,RV.of_q]
def subR (b a:Q2):Q2:=(b.1 - a.1,b.2 - a.2)
def dotR (u v:Q2):Rat:=u.1*v.1+u.2*v.2
def crossR (u v:Q2):Rat:=u.1*v.2 - u.2*v.1
theorem sub_val (b a:PV):vsubS.val (b,a)=(ptV (subR b.p a.p)).v:=rfl
theorem cross_val (u v:PV):vcrossS.val (u,v)=(RV.of (crossR u.p v.p)).v:=rfl
theorem sign_val (r:RV):qsignS.val r=.int .i64 (cmpQ r.q 0):=rfl
/-- A point whose numbers have at most k bytes. -/
def Q2.sz (k:Nat) (p:Q2):Prop:=QB p.1 k∧QB p.2 k
theorem PV.psz {a:PV} {k:Nat} (h:a.sz k) (hk:1≤k):Q2.sz k a.p:=⟨RV.qb' h.1 hk,RV.qb' h.2 hk⟩
theorem ptV_sz {p:Q2} {k l:Nat} (h:Q2.sz k p) (hl:k≤l):(ptV p).sz l:=⟨RV.sz_mono (RV.of_sz h.1) hl,RV.sz_mono (RV.of_sz h.2) hl⟩
theorem sub_sz {a b:Q2} {k l:Nat} (ha:Q2.sz k a) (hb:Q2.sz l b):Q2.sz (k+l+1) (subR a b):=⟨ha.1.sub hb.1,ha.2.sub hb.2⟩
theorem dot_sz {a b:Q2} {k l:Nat} (ha:Q2.sz k a) (hb:Q2.sz l b):QB (dotR a b) (k+l+(k+l)+1):=(ha.1.mul hb.1).add (ha.2.mul hb.2)
theorem cross_sz {a b:Q2} {k l:Nat} (ha:Q2.sz k a) (hb:Q2.sz l b):QB (crossR a b) (k+l+(k+l)+1):=(ha.1.mul hb.2).sub (ha.2.mul hb.1)
theorem of_okL {q:Rat} {k:Nat} (h:QB q k) (hk:k≤8589934592):(RV.of q).ok:=RV.of_ok (h.mono hk)
def orR (a b c:Q2):Rat:=crossR (subR b a) (subR c a)
abbrev PV3:=PV × PV × PV
def pok3 (i:PV3):Prop:=i.1.sz 1048576∧i.2.1.sz 1048576∧i.2.2.sz 1048576
def orientS:PSpec:={ ι:=PV3,args:=fun i=>[i.1.v,i.2.1.v,i.2.2.v],pre:=pok3,val:=fun i=>.int .i64 (cmpQ (orR i.1.p i.2.1.p i.2.2.p) 0) }
/-- A point lies on a segment. -/
def betR (a b p:Q2):Prop:=orR a b p=0∧dotR (subR a p) (subR b p)≤0
instance (a b p:Q2):Decidable (betR a b p):=inferInstanceAs (Decidable (_∧_))
def halfR (v:Q2):Int:=if v.1=0∧v.2=0 then 0 else if 0 < v.2∨v.2=0∧0 < v.1 then 1 else 2
def angR (u v:Q2):Int:=if halfR u < halfR v then -1 else if halfR v < halfR u then 1 else -cmpQ (crossR u v) 0
abbrev TV:=PV × PV × PV
def TV.v (t:TV):Value:=.agg ⟨t.1.cells++(t.2.1.cells++t.2.2.cells)⟩
def fromR (u p:Q2):Q2:=(dotR u p,crossR u p)
def wedR (u v w:Q2):Prop:=halfR u≠0∧halfR v≠0∧halfR w≠0∧angR (fromR u w) (fromR u u)≠0∧(angR (fromR u v) (fromR u u)=0∨angR (fromR u w) (fromR u v) < 0)
instance (u v w:Q2):Decidable (wedR u v w):=inferInstanceAs (Decidable (_∧_))
end Go.Ae
/- Predicates: what the program's forms come to. -/
namespace Go.Ae
open Go
def cmpR (a b:Q2):Int:=if cmpQ a.1 b.1≠0 then cmpQ a.1 b.1 else cmpQ a.2 b.2
theorem cmpQ_lt {p q:Rat} (h:p < q):cmpQ p q=-1:=cmpQ_mone.2 h
theorem cmpQ_gt {p q:Rat} (h:q < p):cmpQ p q=1:=cmpQ_one.2 h
theorem cmpQ_eq {p q:Rat} (h:p=q):cmpQ p q=0:=cmpQ_zero.2 h
theorem tri (q:Rat):q < 0∨q=0∨0 < q:=by
 by_cases h:q < 0
 ·exact .inl h
 ·by_cases h2:0 < q
  ·exact .inr (.inr h2)
  ·exact .inr (.inl (by grind))
theorem cmpQ_cases (q:Rat):(q < 0∧cmpQ q 0=-1)∨(q=0∧cmpQ q 0=0)∨(0 < q∧cmpQ q 0=1):=by
 rcases tri q with h | h | h
 ·exact .inl ⟨h,cmpQ_lt h⟩
 ·exact .inr (.inl ⟨h,cmpQ_eq h⟩)
 ·exact .inr (.inr ⟨h,cmpQ_gt h⟩)
theorem cmpQ_sub (p q:Rat):cmpQ p q=cmpQ (p - q) 0:=by
 rcases cmpQ_cases (p - q) with ⟨h1,h2⟩ | ⟨h1,h2⟩ | ⟨h1,h2⟩ <;> rw [h2]
 ·exact cmpQ_lt (by grind)
 ·exact cmpQ_eq (by grind)
 ·exact cmpQ_gt (by grind)
theorem cmpR_zero {a b:Q2}:cmpR a b=0↔a.1=b.1∧a.2=b.2:=by
 unfold cmpR
 by_cases h:cmpQ a.1 b.1=0
 ·rw [if_neg (by simp [h]),cmpQ_zero]
  exact ⟨fun h2=>⟨cmpQ_zero.1 h,h2⟩,fun h2=>h2.2⟩
 ·rw [if_pos h]
  exact ⟨fun h2=>absurd h2 h,fun h2=>cmpQ_zero.2 h2.1⟩
theorem cmpQ_range (p q:Rat):cmpQ p q=-1∨cmpQ p q=0∨cmpQ p q=1:=by
 unfold cmpQ; split
 ·exact .inl rfl
 ·split
  ·exact .inr (.inr rfl)
  ·exact .inr (.inl rfl)
/-! the circle -/
end Go.Ae
/- Predicates: laws of orientations and circles; the chapter's example. -/
namespace Go.Ae
open Go
def addR (a b:Q2):Q2:=(a.1+b.1,a.2+b.2)
theorem add_sz {a b:Q2} {k l:Nat} (ha:Q2.sz k a) (hb:Q2.sz l b):Q2.sz (k+l+1) (addR a b):=⟨ha.1.add hb.1,ha.2.add hb.2⟩
end Go.Ae
/- Predicates: angles. -/
namespace Go.Ae
open Go
def H1 (u:Q2):Prop:=0 < u.2∨u.2=0∧0 < u.1
def H2 (u:Q2):Prop:=u.2 < 0∨u.2=0∧u.1 < 0
def scR (k:Rat) (u:Q2):Q2:=(u.1*k,u.2*k)
end Go.Ae
/- Values of points and numbers behind variables, with their sizes. -/
namespace Go.Ae
open Go
theorem hideP {x:Q2} {k:Nat} (h:Q2.sz k x):∃ u:PV,(ptV x).v=u.v∧u.p=x∧u.sz k∧Q2.sz k u.p :=
 ⟨ptV x,rfl,ptV_p x,ptV_sz h (Nat.le_refl _),by rw [ptV_p]; exact h⟩
theorem hideR {q:Rat} {k:Nat} (h:QB q k):∃ r:RV,(RV.of q).v=r.v∧r.q=q∧r.sz k∧QB r.q k :=
 ⟨RV.of q,rfl,RV.of_q q,RV.of_sz h,by rw [RV.of_q]; exact h⟩
theorem RV.v_inj {a b:RV} (h:a.v=b.v):a.1=b.1∧a.2.1=b.2.1∧a.2.2=b.2.2:=by
 have h:Value.agg ⟨[.bool a.1,.string a.2.1,.string a.2.2]⟩=Value.agg ⟨[.bool b.1,.string b.2.1,.string b.2.2]⟩:=h
 simp only [Value.agg.injEq,Array.mk.injEq,List.cons.injEq,Value.bool.injEq,Value.string.injEq] at h
 exact ⟨h.1,h.2.1,h.2.2.1⟩
theorem RV.v_eq {a b:RV} (h:a.v=b.v):a=b:=by
 obtain ⟨h1,h2,h3⟩:=RV.v_inj h
 exact Prod.ext h1 (Prod.ext h2 h3)
theorem PV.v_eq {a b:PV} (h:a.v=b.v):a=b:=by
 have h:Value.agg ⟨[.bool a.1.1,.string a.1.2.1,.string a.1.2.2,.bool a.2.1,.string a.2.2.1,.string a.2.2.2]⟩=Value.agg ⟨[.bool b.1.1,.string b.1.2.1,.string b.1.2.2,.bool b.2.1,.string b.2.2.1,.string b.2.2.2]⟩:=h
 simp only [Value.agg.injEq,Array.mk.injEq,List.cons.injEq,Value.bool.injEq,Value.string.injEq] at h
 obtain ⟨h1,h2,h3,h4,h5,h6,_⟩:=h
 exact Prod.ext (Prod.ext h1 (Prod.ext h2 h3)) (Prod.ext h4 (Prod.ext h5 h6))
theorem hideZ (n:Int):∃ m:Int,Value.int .i64 n=Value.int .i64 m∧m=n:=⟨n,rfl,rfl⟩
/-- Canonical ones, equal as such. -/
theorem hidePc {x:Q2} {k:Nat} (h:Q2.sz k x):∃ u:PV,u=ptV x∧(ptV x).v=u.v∧u.p=x∧u.sz k∧Q2.sz k u.p :=
 ⟨ptV x,rfl,rfl,ptV_p x,ptV_sz h (Nat.le_refl _),by rw [ptV_p]; exact h⟩
theorem hideRc {q:Rat} {k:Nat} (h:QB q k):∃ r:RV,r=RV.of q∧(RV.of q).v=r.v∧r.q=q∧r.sz k∧QB r.q k :=
 ⟨RV.of q,rfl,rfl,RV.of_q q,RV.of_sz h,by rw [RV.of_q]; exact h⟩
theorem ofsz (a b:Int) (ha:a.natAbs < 256) (hb:b.natAbs < 256):Q2.sz 1 ((a:Rat),(b:Rat)) :=
 ⟨ex_nby ha,ex_nby hb⟩
theorem eqPQ (p q:PV):eqCells [.bool p.1.1,.string p.1.2.1,.string p.1.2.2,.bool p.2.1,.string p.2.2.1,.string p.2.2.2] [.bool q.1.1,.string q.1.2.1,.string q.1.2.2,.bool q.2.1,.string q.2.2.1,.string q.2.2.2]=decide (p=q):=eqCells_pt p q
theorem scale_sz {a:Q2} {r:Rat} {k l:Nat} (ha:Q2.sz k a) (hr:QB r l):Q2.sz (k+l) (scR r a):=⟨ha.1.mul hr,ha.2.mul hr⟩
theorem QB.of_int {n:Int} {k:Nat} (h:nby n.natAbs≤k) (hk:1≤k):QB (n:Rat) k:=⟨by rw [Rat.num_intCast]; exact h,by rw [Rat.den_intCast]; exact Nat.le_trans (nby_le (show 1 < C ^ 1 by decide)) hk⟩
theorem QB.inv {q:Rat} {k:Nat} (h:QB q k) (hk:1≤k):QB q⁻¹ k:=by
 by_cases hq:q=0
 ·subst hq
  have:(0:Rat)⁻¹=0:=by simp
  rw [this]; exact h
 ·have e:q⁻¹=Rat.divInt q.den q.num:=Rat.inv_def q
  rw [e]
  have hn:q.num≠0:=fun e=>hq (Rat.num_eq_zero.1 e)
  rcases Int.lt_or_gt_of_ne hn with h1 | h1
  ·have e2:Rat.divInt q.den q.num=mkRat (-(q.den:Int)) q.num.natAbs:=by
    obtain ⟨m,hm⟩:∃ m:Nat,q.num=-(m:Int):=⟨q.num.natAbs,by omega⟩
    rw [hm]
    rw [Rat.divInt_neg']
    simp
   rw [e2]
   exact QB.mk (by omega) (by rw [Int.natAbs_neg,Int.natAbs_natCast]; exact h.2) h.1
  ·have e2:Rat.divInt q.den q.num=mkRat (q.den:Int) q.num.natAbs:=by
    obtain ⟨m,hm⟩:∃ m:Nat,q.num=(m:Int):=⟨q.num.natAbs,by omega⟩
    rw [hm]
    simp
   rw [e2]
   exact QB.mk (by omega) (by rw [Int.natAbs_natCast]; exact h.2) h.1
theorem QB.div {p q:Rat} {k l:Nat} (hp:QB p k) (hq:QB q l) (hl:1≤l):QB (p / q) (k+l):=by
 rw [Rat.div_def]; exact hp.mul (hq.inv hl)
theorem mkP {x y:RV} {k l:Nat} (hx:x.sz k) (hy:y.sz l):PV.sz (max k l) (x,y):=⟨RV.sz_mono hx (Nat.le_max_left _ _),RV.sz_mono hy (Nat.le_max_right _ _)⟩
theorem mkQ {x y:RV} {k l:Nat} (hx:QB x.q k) (hy:QB y.q l):Q2.sz (max k l) (PV.p (x,y)):=⟨hx.mono (Nat.le_max_left _ _),hy.mono (Nat.le_max_right _ _)⟩
def atR (a b:Q2) (t:Rat):Q2:=(a.1+(b.1 - a.1)*t,a.2+(b.2 - a.2)*t)
theorem at_sz {a b:Q2} {t:Rat} {k l m:Nat} (ha:Q2.sz k a) (hb:Q2.sz l b) (ht:QB t m):Q2.sz (k+(l+k+1+m)+1) (atR a b t) :=
 ⟨ha.1.add ((hb.1.sub ha.1).mul ht),ha.2.add ((hb.2.sub ha.2).mul ht)⟩
end Go.Ae
/- Predicates: triangles, segments, wedges. -/
namespace Go.Ae
open Go
/-! rows of the circle's determinant -/
abbrev R3:=RV × RV × RV
def R3.v (i:R3):Value:=.agg ⟨[.bool i.1.1,.string i.1.2.1,.string i.1.2.2,.bool i.2.1.1,.string i.2.1.2.1,.string i.2.1.2.2,.bool i.2.2.1,.string i.2.2.2.1,.string i.2.2.2.2]⟩
def R3.get (i:R3):Nat→RV | 0=>i.1 | 1=>i.2.1 | _=>i.2.2
def R3.sz (k:Nat) (i:R3):Prop:=i.1.sz k∧i.2.1.sz k∧i.2.2.sz k
def R3.rows (i:R3):Nat→List Value:=fun r=>(i.get r).cells
def R3.cells (i:R3):List Value:=[.bool i.1.1,.string i.1.2.1,.string i.1.2.2,.bool i.2.1.1,.string i.2.1.2.1,.string i.2.1.2.2,.bool i.2.2.1,.string i.2.2.2.1,.string i.2.2.2.2]
theorem R3.blk (i:R3):BlkLe (.flat false 1 9 (fun _=>i.cells)) (.expl true 9 [i.cells]) :=
 blk_rows rfl (fun r hr=>by
  have:r=0:=by omega
  subst this; rfl) (fun r hr=>rfl)
/-! triangles -/
def TV.w (t:TV):Value:=.agg ⟨[.bool t.1.1.1,.string t.1.1.2.1,.string t.1.1.2.2,.bool t.1.2.1,.string t.1.2.2.1,.string t.1.2.2.2,.bool t.2.1.1.1,.string t.2.1.1.2.1,.string t.2.1.1.2.2,.bool t.2.1.2.1,.string t.2.1.2.2.1,.string t.2.1.2.2.2,.bool t.2.2.1.1,.string t.2.2.1.2.1,.string t.2.2.1.2.2,.bool t.2.2.2.1,.string t.2.2.2.2.1,.string t.2.2.2.2.2]⟩
def sg (q:Rat):Int:=cmpQ q 0
def inR (a b c p:Q2):Prop:=sg (orR a b c)≠0∧sg (orR a b p)=sg (orR a b c)∧sg (orR b c p)=sg (orR a b c)∧sg (orR c a p)=sg (orR a b c)
instance (a b c p:Q2):Decidable (inR a b c p):=inferInstanceAs (Decidable (_∧_))
def onR (a b c p:Q2):Prop:=betR a b p∨betR b c p∨betR c a p
instance (a b c p:Q2):Decidable (onR a b c p):=inferInstanceAs (Decidable (_∨_))
/-! segments -/
/-! wedges -/
def wedRef (u v w:Q2):Prop:=(halfR u≠0∧halfR v≠0∧halfR w≠0)∧if angR u v < 0 then angR u w < 0∧angR w v < 0 else angR u w < 0∨angR w v < 0
instance (u v w:Q2):Decidable (wedRef u v w):=inferInstanceAs (Decidable (_∧_))
def hs (u:Q2):Int:=if halfR u=2 then -1 else 1
/-- All that the halves and the sides of three directions say. -/
structure Tri (u v w:Q2) (a b c x y z:Int):Prop where
 hu:halfR u=a
 hv:halfR v=b
 hw:halfR w=c
 ra:a=1∨a=2
 rb:b=1∨b=2
 rc:c=1∨c=2
 uv:sg (crossR u v)=x
 uw:sg (crossR u w)=y
 wv:sg (crossR w v)=z
end Go.Ae
/- Lists of points: sorting by insertion; equality; sizes. -/
namespace Go.Ae
open Go
/-! sizes of lists -/
instance (k:Nat) (p:PV):Decidable (p.sz k):=inferInstanceAs (Decidable ((_∧_)∧(_∧_)))
theorem lit_blk (l:List PV):BlkLe (.flat false l.length 6 (rowsP l)) (.expl true 6 (l.map PV.cells)) :=
 blk_rows (by simp) (fun r hr=>by
  unfold rowsP
  rw [List.getD_eq_getElem?_getD,List.getD_eq_getElem?_getD,List.getElem?_map,List.getElem?_eq_getElem hr]
  rfl) (fun r hr=>rfl)
/-! equality of lists -/
/-- A list as the second one of two. -/
def PL.valAt (i:PL) (k:Nat):Value:=match i with | none=>.slice none 0 0 | some j=>.slice (some ⟨k,0,none⟩) j.1.length j.2
abbrev PL2:=PL × PL
def sameS:QSpec:={ ι:=PL2,args:=fun i=>[i.1.val,i.2.valAt i.1.blks.length],blks:=fun i=>i.1.blks++i.2.blks,pre:=fun i=>i.1.list.length≤1099511627776∧i.2.list.length≤1099511627776,val:=fun i=>.bool (decide (i.1.list=i.2.list)),new:=fun _=>none }
def eqUp (l m:List PV) (i:Nat):Prop:=l.take i=m.take i
theorem eqUp_start (l m:List PV):eqUp l m 0:=rfl
theorem eqUp_step {l m:List PV} {i:Nat} {p q:PV} (h:eqUp l m i) (hp:l[i]?=some p) (hq:m[i]?=some q) (e:p=q):eqUp l m (i+1):=by
 unfold eqUp at *
 rw [List.take_add_one,List.take_add_one,hp,hq,h,e]
theorem eqUp_end {l m:List PV} (h:eqUp l m l.length) (hl:l.length=m.length):l=m:=by
 unfold eqUp at h
 rw [List.take_length] at h
 rw [h,hl,List.take_length]
theorem ne_at {l m:List PV} {i:Nat} {p q:PV} (hp:l[i]?=some p) (hq:m[i]?=some q) (e:p≠q):l≠m:=fun h=>by
 subst h; rw [hp] at hq; exact e (Option.some.inj hq)
/-! insertion -/
section
variable (f:PV→PV→Int)
/-- An element into a sorted list that stands the other way round. -/
def insB (x:PV):List PV→List PV
 | []=>[x]
 | y::r=>if f x y < 0 then y::insB x r else x::y::r
def srtB (l:List PV):List PV:=l.foldl (fun a x=>insB f x a) []
theorem srtB_snoc {l:List PV} {x:PV}:srtB f (l++[x])=insB f x (srtB f l):=by unfold srtB; rw [List.foldl_append]; rfl
end
/-- A comparison that orders. -/
structure Ordering' (f:PV→PV→Int):Prop where
 anti:∀ x y,f y x=-f x y
 trans:∀ x y z,f x y≤0→f y z≤0→f x z≤0
/-- The whole list when the first i have been sorted. -/
def partL (f:PV→PV→Int) (l:List PV) (i:Nat):List PV:=(srtB f (l.take i)).reverse++l.drop i
/-- While x, the i-th element, moves down: r stands before it, B behind it. -/
structure Mid (f:PV→PV→Int) (l:List PV) (i j:Nat) (x:PV) (r B L:List PV):Prop where
 at_:l[i]?=some x
 acc:srtB f (l.take i)=B++r
 ins:insB f x (srtB f (l.take i))=B++insB f x r
 len:r.length=j
 all:L=r.reverse++x::(B.reverse++l.drop (i+1))
theorem Mid.step {f:PV→PV→Int} {l:List PV} {i j:Nat} {x y:PV} {r B L:List PV} (h:Mid f l i j x (y::r) B L) (hf:f x y < 0) :
  Mid f l i (j - 1) x r (B++[y]) (r.reverse++x::y::(B.reverse++l.drop (i+1))):=by
 refine ⟨h.at_,by rw [h.acc]; simp,?_,?_,by simp⟩
 ·have e:insB f x (y::r)=y::insB f x r:=by
   show (if f x y < 0 then _ else _)=_
   rw [if_pos hf]
  rw [h.ins,e]
  simp
 ·have:=h.len; simp at this; omega
theorem Mid.done {f:PV→PV→Int} {l:List PV} {i j:Nat} {x:PV} {r B L:List PV} (h:Mid f l i j x r B L) (hs:insB f x r=x::r):L=partL f l (i+1):=by
 rw [h.all]
 unfold partL
 rw [List.take_add_one,h.at_]
 simp only [Option.toList_some]
 rw [srtB_snoc,h.ins,hs]
 simp
end Go.Ae
/- Lists of points: the comparison over rationals. -/
namespace Go.Ae
open Go
/-! the statements' contracts -/
end Go.Ae
/- Predicates: laws of wedges. -/
namespace Go.Ae
open Go
end Go.Ae
/- Predicates: counting equal points. -/
namespace Go.Ae
open Go
end Go.Ae
/- Predicates: what the reference compares. -/
namespace Go.Ae
open Go
end Go.Ae
/- Contracts of line, over rationals. -/
namespace Go.Ae
open Go
abbrev Q3:=Rat × Rat × Rat
def R3.q (l:R3):Q3:=(l.1.q,l.2.1.q,l.2.2.q)
def linV (l:Q3):R3:=(RV.of l.1,RV.of l.2.1,RV.of l.2.2)
theorem linV_q (l:Q3):(linV l).q=l:=by
 show ((RV.of l.1).q,(RV.of l.2.1).q,(RV.of l.2.2).q)=l
 rw [RV.of_q,RV.of_q,RV.of_q]
def Q3.sz (k:Nat) (l:Q3):Prop:=QB l.1 k∧QB l.2.1 k∧QB l.2.2 k
theorem R3.qsz {l:R3} {k:Nat} (h:l.sz k) (hk:1≤k):Q3.sz k l.q:=⟨RV.qb' h.1 hk,RV.qb' h.2.1 hk,RV.qb' h.2.2 hk⟩
theorem linV_sz {l:Q3} {k:Nat} (h:Q3.sz k l):(linV l).sz k:=⟨RV.of_sz h.1,RV.of_sz h.2.1,RV.of_sz h.2.2⟩
theorem R3.sz_mono {l:R3} {k m:Nat} (h:l.sz k) (hk:k≤m):l.sz m:=⟨RV.sz_mono h.1 hk,RV.sz_mono h.2.1 hk,RV.sz_mono h.2.2 hk⟩
theorem Q3.mono {l:Q3} {k m:Nat} (h:Q3.sz k l) (hk:k≤m):Q3.sz m l:=⟨h.1.mono hk,h.2.1.mono hk,h.2.2.mono hk⟩
theorem Q2.mono {l:Q2} {k m:Nat} (h:Q2.sz k l) (hk:k≤m):Q2.sz m l:=⟨h.1.mono hk,h.2.mono hk⟩
def zeroL:R3:=(zeroR,zeroR,zeroR)
def nrm (l:Q3):Q2:=(l.1,l.2.1)
def R3.n (l:R3):PV:=(l.1,l.2.1)
/-- The value of a point, whose sign is its side. -/
def valR (l:Q3) (p:Q2):Rat:=dotR (nrm l) p - l.2.2
def isL (l:Q3):Prop:=¬ (l.1=0∧l.2.1=0)
instance (l:Q3):Decidable (isL l):=inferInstanceAs (Decidable (¬ (_∧_)))
def thrR (p q:Q2):Q3:=(p.2 - q.2,q.1 - p.1,(p.2 - q.2)*p.1+(q.1 - p.1)*p.2)
def thrV (p q:Q2):R3 × Int:=if cmpR p q=0 then (zeroL,12) else (linV (thrR p q),0)
def chkV (l:Q3):Int:=if l.1=0∧l.2.1=0 then 12 else 0
def sidV (l:Q3) (p:Q2):Int × Int:=if isL l then (cmpQ (valR l p) 0,0) else (0,1)
def detR (l m:Q3):Rat:=crossR (nrm l) (nrm m)
def metR (l m:Q3):Q2:=((l.2.2*m.2.1 - l.2.1*m.2.2) / detR l m,(l.1*m.2.2 - l.2.2*m.1) / detR l m)
def zeroP:PV:=(zeroR,zeroR)
/-- A point moved towards its foot, k times as far. -/
def footR (k:Rat) (l:Q3) (p:Q2):Q2:=(p.1 - l.1*(k*(valR l p / dotR (nrm l) (nrm l))),p.2 - l.2.1*(k*(valR l p / dotR (nrm l) (nrm l))))
def footV (k:Rat) (l:Q3) (p:Q2):PV × Int:=if isL l then (ptV (footR k l p),0) else (zeroP,1)
def LE.v (x:R3 × Int):Value:=.tuple ⟨[x.1.v,.int .i64 x.2]⟩
def PE.v (x:PV × Int):Value:=.tuple ⟨[x.1.v,.int .i64 x.2]⟩
def ZE.v (x:Int × Int):Value:=.tuple ⟨[.int .i64 x.1,.int .i64 x.2]⟩
def lsz (l:R3):Prop:=l.sz 1048576
def psz' (p:PV):Prop:=p.sz 1048576
def normalS:PSpec:={ ι:=R3,args:=fun i=>[i.v],pre:=fun _=>True,val:=fun i=>i.n.v }
def alongS:PSpec:={ ι:=PV2,args:=fun i=>[i.1.v,i.2.v],pre:=fun i=>i.1.sz 67108864∧i.2.sz 67108864,val:=fun i=>(linV (i.1.p.1,i.1.p.2,dotR i.1.p i.2.p)).v }
def throughS:PSpec:={ ι:=PV2,args:=fun i=>[i.1.v,i.2.v],pre:=fun i=>psz' i.1∧psz' i.2,val:=fun i=>LE.v (thrV i.1.p i.2.p) }
def lcheckS:PSpec:={ ι:=R3,args:=fun i=>[i.v],pre:=lsz,val:=fun i=>.int .i64 (chkV i.q) }
def lvalS:QSpec:={ ι:=R3 × PV,args:=fun i=>[i.2.v,.pointer (some ⟨0,0,none⟩)],blks:=fun i=>[.flat false 1 9 (fun _=>i.1.cells)],pre:=fun i=>lsz i.1∧psz' i.2,val:=fun i=>(RV.of (valR i.1.q i.2.p)).v,new:=fun _=>none }
def lvalueS (g:FuncId):QSpec:={ ι:=R3,args:=fun i=>[i.v],blks:=fun _=>[],pre:=fun _=>True,val:=fun _=>.func (.func g) #[] #[.pointer (some ⟨0,0,none⟩)],new:=fun i=>some (.flat true 1 9 (fun _=>i.cells)) }
theorem line_blk (l:R3):BlkLe (.flat true 1 9 (fun _=>l.cells)) (.expl true 9 [l.cells]) :=
 ⟨fun _=>⟨rfl,rfl⟩,rfl,Nat.le_refl _,fun r hr=>by
  have:r=0:=by have:r < 1:=hr; omega
  subst this; rfl,fun r hr v hv=>allS_spec (show allS l.cells=true from rfl) v hv⟩
theorem line_blk2 {o:Bool} (l:R3):BlkLe (.flat false 1 9 (fun _=>l.cells)) (.flat o 1 9 (fun _=>l.cells)):=BlkLe.flat_flat (fun h=>by cases h) (fun r hr=>rfl)
def sideS:PSpec:={ ι:=R3 × PV,args:=fun i=>[i.1.v,i.2.v],pre:=fun i=>lsz i.1∧psz' i.2,val:=fun i=>ZE.v (sidV i.1.q i.2.p) }
def stepS:PSpec:={ ι:=R3 × PV,args:=fun i=>[i.1.v,i.2.v],pre:=fun i=>lsz i.1∧psz' i.2∧isL i.1.q,val:=fun i=>(ptV (scR (-(valR i.1.q i.2.p / dotR (nrm i.1.q) (nrm i.1.q))) (nrm i.1.q))).v }
def footS (k:Rat):PSpec:={ ι:=R3 × PV,args:=fun i=>[i.1.v,i.2.v],pre:=fun i=>lsz i.1∧psz' i.2,val:=fun i=>PE.v (footV k i.1.q i.2.p) }
/-! the reference's -/
def ralongS:PSpec:={ ι:=R3 × PV,args:=fun i=>[i.1.v,i.2.v],pre:=fun i=>i.1.sz 67108864∧i.2.sz 67108864,val:=fun i=>(RV.of (dotR (nrm i.1.q) i.2.p)).v }
def excessS:PSpec:={ ι:=R3 × PV,args:=fun i=>[i.1.v,i.2.v],pre:=fun i=>lsz i.1∧psz' i.2,val:=fun i=>(RV.of (valR i.1.q i.2.p)).v }
def rquotS:PSpec:={ ι:=RV2,args:=fun i=>[i.1.v,i.2.v],pre:=RV2.ok,val:=fun i=>(RV.of (i.1.q / i.2.q)).v }
/-! what is great -/
def RV.long (i:RV):Prop:=20 < i.2.1.size∨20 < i.2.2.size
instance (i:RV):Decidable i.long:=inferInstanceAs (Decidable (_∨_))
def longS:PSpec:={ ι:=RV,args:=fun i=>[i.v],pre:=fun _=>True,val:=fun i=>.bool (decide i.long) }
def R3.long (l:R3):Prop:=l.1.long∨l.2.1.long∨l.2.2.long
instance (l:R3):Decidable l.long:=inferInstanceAs (Decidable (_∨_∨_))
def PV.long (p:PV):Prop:=p.1.long∨p.2.long
instance (l:PV):Decidable l.long:=inferInstanceAs (Decidable (_∨_))
def llongS:PSpec:={ ι:=R3,args:=fun i=>[i.v],pre:=fun _=>True,val:=fun i=>.bool (decide i.long) }
def plongS:PSpec:={ ι:=PV,args:=fun i=>[i.v],pre:=fun _=>True,val:=fun i=>.bool (decide i.long) }
theorem RV.not_long {i:RV} (h:¬ i.long):i.sz 20:=⟨Nat.le_of_not_lt (fun e=>h (.inl e)),Nat.le_of_not_lt (fun e=>h (.inr e))⟩
theorem PV.not_long {p:PV} (h:¬ p.long):p.sz 20:=⟨RV.not_long (fun e=>h (.inl e)),RV.not_long (fun e=>h (.inr e))⟩
theorem R3.not_long {p:R3} (h:¬ p.long):p.sz 20:=⟨RV.not_long (fun e=>h (.inl e)),RV.not_long (fun e=>h (.inr (.inl e))),RV.not_long (fun e=>h (.inr (.inr e)))⟩
end Go.Ae
/- Lines: sizes, and what the laws need. -/
namespace Go.Ae
open Go
theorem zeroL_sz (k:Nat):zeroL.sz k:=⟨zeroR_sz _,zeroR_sz _,zeroR_sz _⟩
theorem zeroP_sz (k:Nat):zeroP.sz k:=⟨zeroR_sz _,zeroR_sz _⟩
theorem zeroR_qb {k:Nat}:QB zeroR.q (k+1):=RV.qb' (zeroR_sz _) (by omega)
theorem zeroL_qs (k:Nat):Q3.sz (k+1) zeroL.q:=⟨zeroR_qb,zeroR_qb,zeroR_qb⟩
theorem zeroP_qs (k:Nat):Q2.sz (k+1) zeroP.p:=⟨zeroR_qb,zeroR_qb⟩
theorem thr_sz {p q:Q2} {k l:Nat} (hp:Q2.sz k p) (hq:Q2.sz l q):Q3.sz (k+l+1+k+(k+l+1+k)+1) (thrR p q) :=
 ⟨(hp.2.sub hq.2).mono (by omega),(hq.1.sub hp.1).mono (by omega),(((hp.2.sub hq.2).mul hp.1).add (((hq.1.sub hp.1).mono (show l+k+1≤k+l+1 by omega)).mul hp.2)).mono (by omega)⟩
theorem val_sz {l:Q3} {p:Q2} {k m:Nat} (hl:Q3.sz k l) (hp:Q2.sz m p):QB (valR l p) (k+m+(k+m)+1+k+1):=(dot_sz (a:=nrm l) ⟨hl.1,hl.2.1⟩ hp).sub hl.2.2
theorem nrm_sz {l:Q3} {k:Nat} (hl:Q3.sz k l):Q2.sz k (nrm l):=⟨hl.1,hl.2.1⟩
theorem det_sz {l m:Q3} {k j:Nat} (hl:Q3.sz k l) (hm:Q3.sz j m):QB (detR l m) (k+j+(k+j)+1):=cross_sz (nrm_sz hl) (nrm_sz hm)
theorem met_sz {l m:Q3} {k j:Nat} (hl:Q3.sz k l) (hm:Q3.sz j m):Q2.sz (k+j+(k+j)+1+(k+j+(k+j)+1)) (metR l m) :=
 ⟨((hl.2.2.mul hm.2.1).sub (hl.2.1.mul hm.2.2)).div (det_sz hl hm) (by omega),((hl.1.mul hm.2.2).sub (hl.2.2.mul hm.1)).div (det_sz hl hm) (by omega)⟩
theorem foot_sz {l:Q3} {p:Q2} {a:Rat} {k m i:Nat} (ha:QB a i) (hl:Q3.sz k l) (hp:Q2.sz m p):Q2.sz (m+(k+(i+(k+m+(k+m)+1+k+1+(k+k+(k+k)+1))))+1) (footR a l p) :=
 ⟨hp.1.sub (hl.1.mul (ha.mul ((val_sz hl hp).div (dot_sz (nrm_sz hl) (nrm_sz hl)) (by omega)))),hp.2.sub (hl.2.1.mul (ha.mul ((val_sz hl hp).div (dot_sz (nrm_sz hl) (nrm_sz hl)) (by omega))))⟩
/-! answers behind variables -/
theorem hideL {x:Q3} {k:Nat} (h:Q3.sz k x):∃ u:R3,(linV x).v=u.v∧u.q=x∧u.sz k∧Q3.sz k u.q :=
 ⟨linV x,rfl,linV_q x,linV_sz h,by rw [linV_q]; exact h⟩
theorem hideLE {x:R3 × Int} {k:Nat} (h:x.1.sz k∧Q3.sz k x.1.q):∃ (u:R3) (e:Int),LE.v x=.tuple ⟨[u.v,.int .i64 e]⟩∧x=(u,e)∧u.sz k∧Q3.sz k u.q:=⟨x.1,x.2,rfl,rfl,h.1,h.2⟩
theorem hidePE {x:PV × Int} {k:Nat} (h:x.1.sz k∧Q2.sz k x.1.p):∃ (u:PV) (e:Int),PE.v x=.tuple ⟨[u.v,.int .i64 e]⟩∧x=(u,e)∧u.sz k∧Q2.sz k u.p:=⟨x.1,x.2,rfl,rfl,h.1,h.2⟩
theorem hideZE (x:Int × Int):∃ (u e:Int),ZE.v x=.tuple ⟨[.int .i64 u,.int .i64 e]⟩∧x=(u,e):=⟨x.1,x.2,rfl,rfl⟩
theorem lv_sz {x:Q3} {k:Nat} (h:Q3.sz k x):(linV x).sz k∧Q3.sz k (linV x).q:=⟨linV_sz h,by rw [linV_q]; exact h⟩
theorem pv_sz {x:Q2} {k:Nat} (h:Q2.sz k x):(ptV x).sz k∧Q2.sz k (ptV x).p:=⟨ptV_sz h (Nat.le_refl _),by rw [ptV_p]; exact h⟩
theorem z3 {k:Nat} (h:1≤k):zeroL.sz k∧Q3.sz k zeroL.q:=⟨zeroL_sz _,Q3.mono (zeroL_qs 0) h⟩
theorem z2 {k:Nat} (h:1≤k):zeroP.sz k∧Q2.sz k zeroP.p:=⟨zeroP_sz _,Q2.mono (zeroP_qs 0) h⟩
theorem thrV_sz {p q:Q2} {k l:Nat} (hp:Q2.sz k p) (hq:Q2.sz l q):(thrV p q).1.sz (k+l+1+k+(k+l+1+k)+1)∧Q3.sz (k+l+1+k+(k+l+1+k)+1) (thrV p q).1.q:=by
 unfold thrV
 split
 ·exact z3 (by omega)
 ·exact lv_sz (thr_sz hp hq)
theorem footV_sz {l:Q3} {p:Q2} {a:Rat} {k m i:Nat} (ha:QB a i) (hl:Q3.sz k l) (hp:Q2.sz m p):(footV a l p).1.sz (m+(k+(i+(k+m+(k+m)+1+k+1+(k+k+(k+k)+1))))+1)∧Q2.sz (m+(k+(i+(k+m+(k+m)+1+k+1+(k+k+(k+k)+1))))+1) (footV a l p).1.p:=by
 unfold footV
 split
 ·exact pv_sz (foot_sz ha hl hp)
 ·exact z2 (by omega)
theorem R3.v_eq {a b:R3} (h:a.v=b.v):a=b:=by
 have h:Value.agg ⟨[.bool a.1.1,.string a.1.2.1,.string a.1.2.2,.bool a.2.1.1,.string a.2.1.2.1,.string a.2.1.2.2,.bool a.2.2.1,.string a.2.2.2.1,.string a.2.2.2.2]⟩=Value.agg ⟨[.bool b.1.1,.string b.1.2.1,.string b.1.2.2,.bool b.2.1.1,.string b.2.1.2.1,.string b.2.1.2.2,.bool b.2.2.1,.string b.2.2.2.1,.string b.2.2.2.2]⟩:=h
 simp only [Value.agg.injEq,Array.mk.injEq,List.cons.injEq,Value.bool.injEq,Value.string.injEq] at h
 obtain ⟨h1,h2,h3,h4,h5,h6,h7,h8,h9,_⟩:=h
 exact Prod.ext (Prod.ext h1 (Prod.ext h2 h3)) (Prod.ext (Prod.ext h4 (Prod.ext h5 h6)) (Prod.ext h7 (Prod.ext h8 h9)))
theorem step_sz {l:Q3} {p:Q2} {k m:Nat} (hl:Q3.sz k l) (hp:Q2.sz m p):Q2.sz (k+(k+m+(k+m)+1+k+1+(k+k+(k+k)+1))) (scR (-(valR l p / dotR (nrm l) (nrm l))) (nrm l)) :=
 scale_sz (nrm_sz hl) (QB.neg ((val_sz hl hp).div (dot_sz (nrm_sz hl) (nrm_sz hl)) (by omega)))
theorem foot_step (l:Q3) (p:Q2):addR p (scR (-(valR l p / dotR (nrm l) (nrm l))) (nrm l))=footR 1 l p:=by
 unfold addR scR footR nrm
 ext <;> dsimp only <;> grind
theorem hideN {l:R3} {k:Nat} (h:l.sz k) (hq:Q3.sz k l.q):∃ u:PV,l.n.v=u.v∧u.p=nrm l.q∧u.sz k∧Q2.sz k u.p:=⟨l.n,rfl,rfl,⟨h.1,h.2.1⟩,⟨hq.1,hq.2.1⟩⟩
theorem along_sz {a b:Q2} {k l:Nat} (ha:Q2.sz k a) (hb:Q2.sz l b):Q3.sz (k+l+(k+l)+1) (a.1,a.2,dotR a b):=⟨ha.1.mono (by omega),ha.2.mono (by omega),dot_sz ha hb⟩
theorem qb2:QB (2:Rat) 1:=ex_nby (n:=2) (by decide)
theorem addz (q z:Q2) (hz:z=(((0:Int):Rat),((0:Int):Rat))):addR q z=q:=by
 subst hz
 show (q.1+((0:Int):Rat),q.2+((0:Int):Rat))=q
 rw [show ((0:Int):Rat)=0 from rfl]
 ext <;> dsimp only <;> grind
end Go.Ae
/- Convex polygons: lists of points in cyclic order. -/
namespace Go.Ae
open Go
theorem orR_eq (a b c:Q2):orR a b c=(b.1 - a.1)*(c.2 - a.2) - (b.2 - a.2)*(c.1 - a.1):=rfl
theorem orR_cyc (a b c:Q2):orR a b c=orR b c a:=by rw [orR_eq,orR_eq]; grind
theorem orR_swap (a b c:Q2):orR a c b=-orR a b c:=by rw [orR_eq,orR_eq]; grind
theorem orR_aab (a b:Q2):orR a a b=0:=by rw [orR_eq]; grind
theorem orR_aba (a b:Q2):orR a b a=0:=by rw [orR_eq]; grind
theorem orR_abb (a b:Q2):orR a b b=0:=by rw [orR_eq]; grind
theorem orR_mix1 (a b c d:Q2) (t:Rat):orR (atR a b t) c d=(1 - t)*orR a c d+t*orR b c d:=by
 simp only [orR_eq,atR]; grind
theorem orR_mix2 (a b c d:Q2) (t:Rat):orR c (atR a b t) d=(1 - t)*orR c a d+t*orR c b d:=by
 simp only [orR_eq,atR]; grind
theorem orR_mix3 (a b c d:Q2) (t:Rat):orR c d (atR a b t)=(1 - t)*orR c d a+t*orR c d b:=by
 simp only [orR_eq,atR]; grind
theorem mix_nonneg {x y t:Rat} (h0:0≤t) (h1:t≤1) (hx:0≤x) (hy:0≤y):0≤(1 - t)*x+t*y:=by
 have a:=Rat.mul_nonneg (show 0≤1 - t by grind) hx
 have b:=Rat.mul_nonneg h0 hy
 grind
/-- Any two of the list, seen from a, turn left. -/
def LeftP (a:Q2) (l:List Q2):Prop:=l.Pairwise (fun b c=>0≤orR a b c)
/-- Any three turn left, or lie on a line. -/
def Turn:List Q2→Prop
 | []=>True
 | a::l=>LeftP a l∧Turn l
theorem Turn.sublist {l m:List Q2} (h:Turn m) (hs:l.Sublist m):Turn l:=by
 induction hs with
 | slnil=>exact trivial
 | cons a hs ih=>exact ih h.2
 | cons_cons a hs ih=>exact ⟨h.1.sublist hs,ih h.2⟩
theorem Turn.filter {l:List Q2} (h:Turn l) (f:Q2→Bool):Turn (l.filter f):=h.sublist List.filter_sublist
theorem LeftP.ins {a p q:Q2} {t:Rat} {A B:List Q2} (h0:0≤t) (h1:t≤1) (h:LeftP a (A++p::q::B)):LeftP a (A++p::atR p q t::q::B):=by
 unfold LeftP at *
 rw [List.pairwise_append] at h ⊢
 obtain ⟨hA,hB,hAB⟩:=h
 rw [List.pairwise_cons,List.pairwise_cons] at hB
 obtain ⟨hp,hq,hB⟩:=hB
 refine ⟨hA,?_,?_⟩
 ·rw [List.pairwise_cons,List.pairwise_cons,List.pairwise_cons]
  refine ⟨?_,?_,hq,hB⟩
  ·intro z hz
   rcases List.mem_cons.1 hz with rfl | hz
   ·rw [orR_mix3,orR_abb]
    exact mix_nonneg h0 h1 (by grind) (hp _ (List.mem_cons_self ..))
   ·exact hp z hz
  ·intro z hz
   rw [orR_mix2]
   rcases List.mem_cons.1 hz with rfl | hz
   ·exact mix_nonneg h0 h1 (hp _ (List.mem_cons_self ..)) (by rw [orR_abb]; grind)
   ·exact mix_nonneg h0 h1 (hp _ (List.mem_cons_of_mem _ hz)) (hq _ hz)
 ·intro y hy z hz
  rcases List.mem_cons.1 hz with rfl | hz
  ·exact hAB y hy _ (List.mem_cons_self ..)
  ·rcases List.mem_cons.1 hz with rfl | hz
   ·rw [orR_mix3]
    exact mix_nonneg h0 h1 (hAB y hy _ (List.mem_cons_self ..)) (hAB y hy _ (List.mem_cons_of_mem _ (List.mem_cons_self ..)))
   ·exact hAB y hy _ (List.mem_cons_of_mem _ hz)
/-- A point put between two neighbours. -/
theorem Turn.ins {p q:Q2} {t:Rat} {A B:List Q2} (h0:0≤t) (h1:t≤1) (h:Turn (A++p::q::B)):Turn (A++p::atR p q t::q::B):=by
 induction A with
 | cons a A ih=>exact ⟨h.1.ins h0 h1,ih h.2⟩
 | nil =>
  obtain ⟨hp,hq,hB⟩:=h
  refine ⟨LeftP.ins (A:=[]) (p:=p) h0 h1 (by
   show List.Pairwise _ (p::q::B)
   rw [List.pairwise_cons]
   exact ⟨fun z hz=>by rw [orR_aab]; grind,hp⟩) |>.sublist (List.sublist_cons_self ..),?_,hq,hB⟩
  unfold LeftP at *
  rw [List.pairwise_cons] at hp ⊢
  obtain ⟨hp,hpB⟩:=hp
  refine ⟨fun z hz=>?_,?_⟩
  ·rw [orR_mix1,orR_aab]
   exact mix_nonneg h0 h1 (hp z hz) (by grind)
  ·exact (hpB.and hq).imp (fun ⟨x,y⟩=>by rw [orR_mix1]; exact mix_nonneg h0 h1 x y)
theorem Turn.snoc {A:List Q2} {x:Q2} (h:Turn A) (hx:A.Pairwise (fun y z=>0≤orR y z x)):Turn (A++[x]):=by
 induction A with
 | nil=>exact ⟨.nil,trivial⟩
 | cons a A ih =>
  rw [List.pairwise_cons] at hx
  refine ⟨?_,ih h.2 hx.2⟩
  show List.Pairwise _ (A++[x])
  rw [List.pairwise_append]
  exact ⟨h.1,by simp,fun y hy z hz=>by simp at hz; subst hz; exact hx.1 y hy⟩
/-- The list turned by one. -/
theorem Turn.rot1 {a:Q2} {l:List Q2} (h:Turn (a::l)):Turn (l++[a]) :=
 h.2.snoc (h.1.imp (fun {y z} h=>by rw [orR_cyc,orR_cyc]; rw [← orR_cyc] at *; first | exact h | (rw [orR_cyc]; exact h)))
theorem Turn.rot {A B:List Q2} (h:Turn (A++B)):Turn (B++A):=by
 induction A generalizing B with
 | nil=>rw [List.append_nil]; exact h
 | cons a A ih =>
  have:Turn ((A++B)++[a]):=h.rot1
  rw [List.append_assoc] at this
  have:=ih this
  rwa [List.append_assoc] at this
/-- A point put behind the last one, on the way to the first one. -/
theorem Turn.last {p h0:Q2} {t:Rat} {A:List Q2} (h1:0≤t) (h2:t≤1) (h:Turn (A++[p])) (hh:(A++[p]).head?=some h0):Turn (A++[p,atR p h0 t]):=by
 have:=h.rot
 cases A with
 | nil =>
  simp at hh; subst hh
  exact ⟨by unfold LeftP; simp,by unfold LeftP; simp,trivial⟩
 | cons a A =>
  simp at hh; subst hh
  have:=Turn.ins (A:=[]) h1 h2 this
  have:=Turn.rot (A:=[p,atR p a t]) (B:=a::A) this
  exact this
end Go.Ae
/- Convex polygons: the part on the left of a line. -/
namespace Go.Ae
open Go
/-! neighbours -/
def consec {α:Type} (l:List α):List (α × α):=l.zip l.tail
def edges {α:Type} (l:List α):List (α × α):=consec (l++l.head?.toList)
theorem consec_cons {α:Type} (p q:α) (l:List α):consec (p::q::l)=(p,q)::consec (q::l):=rfl
theorem consec_app {α:Type} (A B:List α) (x:α):consec (A++x::B)=consec (A++[x])++consec (x::B):=by
 induction A with
 | nil=>rfl
 | cons a A ih =>
  cases A with
  | nil=>rfl
  | cons b A =>
   show (a,b)::consec (b::A++x::B)=(a,b)::consec (b::A++[x])++_
   rw [ih]; rfl
theorem consec_mem {α:Type} {l:List α} {e:α × α} (h:e∈consec l):e.1∈l∧e.2∈l:=by
 have:=List.of_mem_zip h
 exact ⟨this.1,List.mem_of_mem_tail this.2⟩
theorem edges_cons {α:Type} (h:α) (l:List α):edges (h::l)=consec (h::l++[h]):=rfl
theorem edges_mem {α:Type} {l:List α} {e:α × α} (h:e∈edges l):e.1∈l∧e.2∈l:=by
 cases l with
 | nil=>cases h
 | cons a l =>
  have:=consec_mem h
  simp at this ⊢
  exact ⟨by rcases this.1 with h | h | h <;> simp [h],by rcases this.2 with h | h | h <;> simp [h]⟩
theorem edges_rot {α:Type} {A B:List α} {e:α × α} (h:e∈edges (A++B)):e∈edges (B++A):=by
 cases A with
 | nil=>rw [List.append_nil]; exact h
 | cons a A =>
  cases B with
  | nil=>rw [List.append_nil] at h; exact h
  | cons b B =>
   have h1:edges (a::A++b::B)=consec (a::A++[b])++consec (b::B++[a]):=by
    show consec ((a::A++b::B)++[a])=_
    rw [List.append_assoc]
    exact consec_app (a::A) (B++[a]) b
   have h2:edges (b::B++a::A)=consec (b::B++[a])++consec (a::A++[b]):=by
    show consec ((b::B++a::A)++[b])=_
    rw [List.append_assoc]
    exact consec_app (b::B) (A++[b]) a
   rw [h1] at h
   rw [h2]
   rcases List.mem_append.1 h with h | h
   ·exact List.mem_append_right _ h
   ·exact List.mem_append_left _ h
theorem edges_map {α β:Type} (f:α→β) (l:List α):edges (l.map f)=(edges l).map (fun e=>(f e.1,f e.2)):=by
 unfold edges consec
 have:l.map f++(l.map f).head?.toList=(l++l.head?.toList).map f:=by cases l <;> simp
 rw [this,← List.map_tail,List.zip_map]
 rfl
theorem consec_get {α:Type} {l:List α} {i:Nat} {p q:α} (hp:l[i]?=some p) (hq:l[i+1]?=some q):(consec l)[i]?=some (p,q):=by
 unfold consec
 rw [List.getElem?_zip_eq_some]
 exact ⟨hp,by rw [List.getElem?_tail]; exact hq⟩
theorem edges_length {α:Type} (l:List α):(edges l).length=l.length:=by
 cases l with
 | nil=>rfl
 | cons a l=>rw [edges_cons]; unfold consec; simp
theorem edges_get {α:Type} {l:List α} {i:Nat} {p q:α} (hp:l[i]?=some p) (hq:l[(i+1) % l.length]?=some q):(edges l)[i]?=some (p,q):=by
 cases l with
 | nil=>simp at hp
 | cons a l =>
  have hi:i < (a::l).length:=(List.getElem?_eq_some_iff.1 hp).1
  rw [edges_cons]
  refine consec_get (by rw [List.getElem?_append_left hi]; exact hp) ?_
  rcases Nat.lt_or_eq_of_le (show i+1≤(a::l).length from hi) with h | h
  ·rw [Nat.mod_eq_of_lt h] at hq
   rw [List.getElem?_append_left h]; exact hq
  ·rw [h,Nat.mod_self] at hq
   rw [List.getElem?_append_right (by omega),h,Nat.sub_self]
   exact hq
/-! cutting -/
theorem valR_eq (l:Q3) (p:Q2):valR l p=l.1*p.1+l.2.1*p.2 - l.2.2:=rfl
theorem valR_mix (m:Q3) (a b:Q2) (t:Rat):valR m (atR a b t)=(1 - t)*valR m a+t*valR m b:=by
 simp only [valR_eq,atR]; grind
def crossT (m:Q3) (p q:Q2):Rat:=valR m p / (valR m p - valR m q)
def crossP (m:Q3) (p q:Q2):List Q2:=if cmpQ (valR m p) 0*cmpQ (valR m q) 0 < 0 then [atR p q (crossT m p q)] else []
def keepP (m:Q3) (p:Q2):List Q2:=if cmpQ (valR m p) 0 ≥ 0 then [p] else []
def cutR (m:Q3) (l:List Q2):List Q2:=(edges l).flatMap fun e=>keepP m e.1++crossP m e.1 e.2
def refR (m:Q3) (l:List Q2):List Q2:=(edges l).flatMap fun e=>e.1::crossP m e.1 e.2
theorem cross_iff {m:Q3} {p q:Q2}:cmpQ (valR m p) 0*cmpQ (valR m q) 0 < 0↔(0 < valR m p∧valR m q < 0)∨(valR m p < 0∧0 < valR m q):=by
 rcases cmpQ_cases (valR m p) with ⟨h1,h2⟩ | ⟨h1,h2⟩ | ⟨h1,h2⟩ <;> rcases cmpQ_cases (valR m q) with ⟨h3,h4⟩ | ⟨h3,h4⟩ | ⟨h3,h4⟩ <;> rw [h2,h4] <;> constructor <;> intro h <;> first | grind | omega
theorem div_unit {x y:Rat} (h:(0 < x∧y < 0)∨(x < 0∧0 < y)):0≤x / (x - y)∧x / (x - y)≤1∧(x / (x - y))*(x - y)=x:=by
 have hne:x - y≠0:=by grind
 have e:(x / (x - y))*(x - y)=x:=by rw [Rat.div_def]; grind
 refine ⟨?_,?_,e⟩
 ·rcases h with ⟨h1,h2⟩ | ⟨h1,h2⟩
  ·by_cases h3:x / (x - y) < 0
   ·have:=Rat.mul_pos (show 0 < -(x / (x - y)) by grind) (show 0 < x - y by grind); grind
   ·grind
  ·by_cases h3:x / (x - y) < 0
   ·have:=Rat.mul_pos (show 0 < -(x / (x - y)) by grind) (show 0 < y - x by grind); grind
   ·grind
 ·rcases h with ⟨h1,h2⟩ | ⟨h1,h2⟩
  ·by_cases h3:1 < x / (x - y)
   ·have:=Rat.mul_pos (show 0 < x / (x - y) - 1 by grind) (show 0 < x - y by grind); grind
   ·grind
  ·by_cases h3:1 < x / (x - y)
   ·have:=Rat.mul_pos (show 0 < x / (x - y) - 1 by grind) (show 0 < y - x by grind); grind
   ·grind
theorem crossP_spec {m:Q3} {p q x:Q2} (h:x∈crossP m p q):((0 < valR m p∧valR m q < 0)∨(valR m p < 0∧0 < valR m q))∧x=atR p q (crossT m p q)∧0≤crossT m p q∧crossT m p q≤1∧valR m x=0:=by
 unfold crossP at h
 split at h
 ·rename_i h1
  have h1:=cross_iff.1 h1
  simp at h
  obtain ⟨h2,h3,h4⟩:=div_unit h1
  refine ⟨h1,h,h2,h3,?_⟩
  rw [h,valR_mix]
  unfold crossT
  grind
 ·cases h
theorem crossP_mk {m:Q3} {p q:Q2} (h:(0 < valR m p∧valR m q < 0)∨(valR m p < 0∧0 < valR m q)):crossP m p q=[atR p q (crossT m p q)]:=by
 unfold crossP; rw [if_pos (cross_iff.2 h)]
theorem crossP_cases (m:Q3) (p q:Q2):crossP m p q=[]∨(crossP m p q=[atR p q (crossT m p q)]∧0≤crossT m p q∧crossT m p q≤1):=by
 by_cases h:cmpQ (valR m p) 0*cmpQ (valR m q) 0 < 0
 ·have h1:=crossP_mk (cross_iff.1 h)
  have:=crossP_spec (x:=atR p q (crossT m p q)) (by rw [h1]; simp)
  exact .inr ⟨h1,this.2.2.1,this.2.2.2.1⟩
 ·left; unfold crossP; rw [if_neg h]
theorem cut_filter (m:Q3) (l:List Q2):cutR m l=(refR m l).filter fun p=>decide (0≤valR m p):=by
 unfold cutR refR
 rw [List.filter_flatMap]
 congr 1
 funext e
 rw [List.filter_cons]
 have h1:(crossP m e.1 e.2).filter (fun p=>decide (0≤valR m p))=crossP m e.1 e.2:=by
  rw [List.filter_eq_self]
  intro x hx
  have:=(crossP_spec hx).2.2.2.2
  rw [this]; decide
 rw [h1]
 unfold keepP
 by_cases h:0≤valR m e.1
 ·rw [if_pos (cmpQ_ge.2 h),if_pos (by simpa using h)]; rfl
 ·rw [if_neg (fun h2=>h (cmpQ_ge.1 h2)),if_neg (by simpa using h)]; rfl
theorem ref_turn (m:Q3) {h:Q2}:∀ (B:List Q2) (p:Q2) (A:List Q2),Turn (A++p::B)→(A++p::B).head?=some h→Turn (A++(consec (p::B++[h])).flatMap fun e=>e.1::crossP m e.1 e.2):=by
 intro B
 induction B with
 | nil =>
  intro p A ht hh
  show Turn (A++((p::crossP m p h)++[]))
  rw [List.append_nil]
  rcases crossP_cases m p h with e | ⟨e,h1,h2⟩
  ·rw [e]; exact ht
  ·rw [e]; exact ht.last h1 h2 hh
 | cons q B ih =>
  intro p A ht hh
  show Turn (A++((p::crossP m p q)++(consec (q::B++[h])).flatMap fun e=>e.1::crossP m e.1 e.2))
  rw [← List.append_assoc]
  rcases crossP_cases m p q with e | ⟨e,h1,h2⟩
  ·rw [e]
   exact ih q (A++[p]) (by rw [List.append_assoc]; exact ht) (by rw [List.append_assoc]; exact hh)
  ·rw [e]
   refine ih q (A++[p,atR p q (crossT m p q)]) ?_ ?_
   ·rw [List.append_assoc]; exact ht.ins h1 h2
   ·cases A with
    | nil=>exact hh
    | cons a A=>exact hh
theorem cut_turn {m:Q3} {l:List Q2} (h:Turn l):Turn (cutR m l):=by
 rw [cut_filter]
 refine Turn.filter ?_ _
 cases l with
 | nil=>exact trivial
 | cons a l=>exact ref_turn m l a [] h rfl
end Go.Ae
/- Convex polygons: the points within. -/
namespace Go.Ae
open Go
/-- The convex hull: every half-plane that contains the vertices contains the point. -/
def Hull (P:List Q2) (p:Q2):Prop:=∀ f:Q3,(∀ v∈P,0≤valR f v)→0≤valR f p
theorem Hull.of_mem {P:List Q2} {v:Q2} (h:v∈P):Hull P v:=fun f hf=>hf v h
theorem Hull.trans {P Q:List Q2} {p:Q2} (h:Hull P p) (hq:∀ v∈P,Hull Q v):Hull Q p:=fun f hf=>h f (fun v hv=>hq v hv f hf)
theorem Hull.mono {P Q:List Q2} {p:Q2} (h:Hull P p) (hq:∀ v∈P,v∈Q):Hull Q p:=h.trans fun v hv=>.of_mem (hq v hv)
theorem Hull.nil (p:Q2):¬ Hull [] p:=fun h=>by
 have:=h (0,0,1) (fun v hv=>nomatch hv)
 rw [valR_eq] at this
 grind
theorem Hull.at {P:List Q2} {a b:Q2} {t:Rat} (ha:Hull P a) (hb:Hull P b) (h0:0≤t) (h1:t≤1):Hull P (atR a b t):=fun f hf=>by
 rw [valR_mix]; exact mix_nonneg h0 h1 (ha f hf) (hb f hf)
theorem mem_cut {m:Q3} {P:List Q2} {x:Q2} (h:x∈cutR m P):(x∈P∧0≤valR m x)∨∃ e∈edges P,x∈crossP m e.1 e.2:=by
 unfold cutR at h
 obtain ⟨e,he,hx⟩:=List.mem_flatMap.1 h
 rcases List.mem_append.1 hx with hx | hx
 ·left
  unfold keepP at hx
  split at hx
  ·rename_i hc
   simp at hx
   rw [hx]
   exact ⟨(edges_mem he).1,cmpQ_ge.1 hc⟩
  ·cases hx
 ·exact .inr ⟨e,he,hx⟩
theorem edges_left {α:Type} {l:List α} {x:α} (h:x∈l):∃ y,(x,y)∈edges l:=by
 obtain ⟨i,hi,rfl⟩:=List.getElem_of_mem h
 have h2:(i+1) % l.length < l.length:=Nat.mod_lt _ (by omega)
 have:=edges_get (List.getElem?_eq_getElem hi) (List.getElem?_eq_getElem h2)
 exact ⟨_,List.mem_of_getElem? this⟩
theorem cut_keep {m:Q3} {P:List Q2} {x:Q2} (h:x∈P) (hm:0≤valR m x):x∈cutR m P:=by
 obtain ⟨y,hy⟩:=edges_left h
 unfold cutR
 refine List.mem_flatMap.2 ⟨_,hy,List.mem_append_left _ ?_⟩
 unfold keepP
 rw [if_pos (cmpQ_ge.2 hm)]
 exact List.mem_cons_self ..
/-- Where the border crosses the line, the cut polygon has a vertex. -/
theorem cut_point {m:Q3} {P:List Q2} {x y:Q2} (he:(x,y)∈edges P) (h:(0≤valR m x∧valR m y < 0)∨(valR m x≤0∧0 < valR m y)):∃ t,0≤t∧t≤1∧atR x y t∈cutR m P∧valR m (atR x y t)=0:=by
 by_cases h0:valR m x=0
 ·refine ⟨0,by grind,by grind,?_,by rw [valR_mix,h0]; grind⟩
  have:atR x y 0=x:=by unfold atR; exact Prod.ext (by grind) (by grind)
  rw [this]
  exact cut_keep (edges_mem he).1 (by grind)
 ·have h2:(0 < valR m x∧valR m y < 0)∨(valR m x < 0∧0 < valR m y):=by grind
  have h3:=crossP_mk h2
  have h4:=crossP_spec (x:=atR x y (crossT m x y)) (by rw [h3]; simp)
  refine ⟨_,h4.2.2.1,h4.2.2.2.1,?_,h4.2.2.2.2⟩
  unfold cutR
  exact List.mem_flatMap.2 ⟨_,he,List.mem_append_right _ (by rw [h3]; simp)⟩
theorem path_step {m:Q3}:∀ (l:List Q2) (a:Q2),0≤valR m a→(∃ w∈l,valR m w < 0)→∃ x y,(x,y)∈consec (a::l)∧0≤valR m x∧valR m y < 0:=by
 intro l
 induction l with
 | nil=>rintro a _ ⟨w,hw,_⟩; cases hw
 | cons b l ih =>
  rintro a ha ⟨w,hw,hm⟩
  rw [consec_cons]
  by_cases hb:valR m b < 0
  ·exact ⟨a,b,List.mem_cons_self ..,ha,hb⟩
  ·rcases List.mem_cons.1 hw with rfl | hw
   ·exact absurd hm hb
   ·obtain ⟨x,y,h1,h2⟩:=ih b (by grind) ⟨w,hw,hm⟩
    exact ⟨x,y,List.mem_cons_of_mem _ h1,h2⟩
def negL (m:Q3):Q3:=(-m.1,-m.2.1,-m.2.2)
theorem valR_neg (m:Q3) (p:Q2):valR (negL m) p=-valR m p:=by rw [valR_eq,valR_eq]; unfold negL; grind
theorem path_step' {m:Q3} (l:List Q2) (a:Q2) (h:valR m a≤0) (hw:∃ w∈l,0 < valR m w):∃ x y,(x,y)∈consec (a::l)∧valR m x≤0∧0 < valR m y:=by
 obtain ⟨x,y,h1,h2,h3⟩:=path_step (m:=negL m) l a (by rw [valR_neg]; grind) (by obtain ⟨w,h1,h2⟩:=hw; exact ⟨w,h1,by rw [valR_neg]; grind⟩)
 rw [valR_neg] at h2 h3
 exact ⟨x,y,h1,by grind,by grind⟩
/-- A functional over the plane is made of two independent ones. -/
theorem functional (f m:Q3) (v w z:Q2):∃ α β γ:Rat,(∀ z,(valR m v - valR m w)*valR f z=α*valR m z+β*orR v w z+γ):=by
 refine ⟨-(f.1*(w.1 - v.1)+f.2.1*(w.2 - v.2)),-(m.1*f.2.1 - m.2.1*f.1),(valR m v - valR m w)*valR f v - -(f.1*(w.1 - v.1)+f.2.1*(w.2 - v.2))*valR m v,fun z=>?_⟩
 simp only [valR_eq,orR_eq]
 grind
theorem exists_lam (f m:Q3):∀ P:List Q2,∃ k:Rat,0≤k∧(∀ v∈P,valR m v < 0→0≤valR f v - k*valR m v)∧(k=0∨∃ w∈P,valR m w < 0∧valR f w=k*valR m w):=by
 intro P
 induction P with
 | nil=>exact ⟨0,by grind,(fun v hv=>by cases hv),.inl rfl⟩
 | cons v P ih =>
  obtain ⟨k,hk,h1,h2⟩:=ih
  by_cases hv:valR m v < 0∧valR f v - k*valR m v < 0
  ·obtain ⟨hv1,hv2⟩:=hv
   have e:valR f v / valR m v*valR m v=valR f v:=by rw [Rat.div_def]; grind
   obtain ⟨j,hj⟩:∃ j,j=valR f v / valR m v:=⟨_,rfl⟩
   rw [← hj] at e
   have hlt:k < j:=by
    by_cases h:k < j
    ·exact h
    ·have:=Rat.mul_nonneg (show 0≤k - j by grind) (show 0≤-valR m v by grind)
     grind
   refine ⟨j,by grind,fun u hu hm=>?_,.inr ⟨v,List.mem_cons_self ..,hv1,e.symm⟩⟩
   rcases List.mem_cons.1 hu with rfl | hu
   ·rw [e]; grind
   ·have h3:=h1 u hu hm
    have:=Rat.mul_nonneg (show 0≤j - k by grind) (show 0≤-valR m u by grind)
    grind
  ·refine ⟨k,hk,fun u hu hm=>?_,?_⟩
   ·rcases List.mem_cons.1 hu with rfl | hu
    ·have:¬ (valR f u - k*valR m u < 0):=fun h=>hv ⟨hm,h⟩
     grind
    ·exact h1 u hu hm
   ·rcases h2 with h2 | ⟨w,hw,h2⟩
    ·exact .inl h2
    ·exact .inr ⟨w,List.mem_cons_of_mem _ hw,h2⟩
theorem Turn.mid {v w x:Q2} {A B:List Q2} (h:Turn (v::A++w::B)) (hx:x∈v::A++[w]):orR v w x≤0:=by
 have hl:List.Pairwise (fun b c=>0≤orR v b c) (A++w::B):=h.1
 rw [List.pairwise_append] at hl
 simp only [List.cons_append,List.mem_cons,List.mem_append,List.not_mem_nil,or_false] at hx
 rcases hx with rfl | hx | rfl
 ·rw [orR_aba]; grind
 ·have:=hl.2.2 x hx w (List.mem_cons_self ..)
  rw [orR_swap]; grind
 ·rw [orR_abb]; grind
theorem Turn.back {v w x:Q2} {A B:List Q2} (h:Turn (v::A++w::B)) (hx:x∈w::B++[v]):0≤orR v w x:=by
 have hl:List.Pairwise (fun b c=>0≤orR v b c) (A++w::B):=h.1
 rw [List.pairwise_append,List.pairwise_cons] at hl
 simp only [List.cons_append,List.mem_cons,List.mem_append,List.not_mem_nil,or_false] at hx
 rcases hx with rfl | hx | rfl
 ·rw [orR_abb]; grind
 ·exact hl.2.1.1 x hx
 ·rw [orR_aba]; grind
/-- What a half-plane must hold on both sides of the line. -/
theorem cut_key {m f:Q3} {P:List Q2} {v w:Q2} (hT:Turn P) (hf:∀ x∈cutR m P,0≤valR f x) (hv:v∈P) (hw:w∈P) (hmv:0 < valR m v) (hmw:valR m w < 0):0≤valR f v*(-valR m w)+valR f w*valR m v:=by
 obtain ⟨P1,P2,rfl⟩:=List.append_of_mem hv
 have hw':w∈P2++P1:=by
  rcases List.mem_append.1 hw with h | h
  ·exact List.mem_append_right _ h
  ·rcases List.mem_cons.1 h with rfl | h
   ·grind
   ·exact List.mem_append_left _ h
 obtain ⟨A,B,hAB⟩:=List.append_of_mem hw'
 have hT':Turn (v::A++w::B):=by
  have:=hT.rot
  rw [List.cons_append,hAB] at this
  exact this
 have hedge:∀ e,e∈edges (v::A++w::B)→e∈edges (P1++v::P2):=fun e he=>by
  refine edges_rot (A:=v::P2) ?_
  rw [List.cons_append,hAB]; exact he
 have hsplit:edges (v::A++w::B)=consec (v::A++[w])++consec (w::B++[v]):=by
  show consec ((v::A++w::B)++[v])=_
  rw [List.append_assoc]
  exact consec_app (v::A) (B++[v]) w
 obtain ⟨x1,y1,he1,hx1,hy1⟩:=path_step (m:=m) (A++[w]) v (by grind) ⟨w,by simp,hmw⟩
 obtain ⟨x2,y2,he2,hx2,hy2⟩:=path_step' (m:=m) (B++[v]) w (by grind) ⟨v,by simp,hmv⟩
 have m1:=consec_mem he1
 have m2:=consec_mem he2
 obtain ⟨t1,h10,h11,hc1,hm1⟩:=cut_point (hedge _ (by rw [hsplit]; exact List.mem_append_left _ he1)) (.inl ⟨hx1,hy1⟩)
 obtain ⟨t2,h20,h21,hc2,hm2⟩:=cut_point (hedge _ (by rw [hsplit]; exact List.mem_append_right _ he2)) (.inr ⟨hx2,hy2⟩)
 have hf1:=hf _ hc1
 have hf2:=hf _ hc2
 have hg1:orR v w (atR x1 y1 t1)≤0:=by
  rw [orR_mix3]
  have:=mix_nonneg h10 h11 (show 0≤-orR v w x1 by have:=hT'.mid m1.1; grind) (show 0≤-orR v w y1 by have:=hT'.mid m1.2; grind)
  grind
 have hg2:0≤orR v w (atR x2 y2 t2):=by
  rw [orR_mix3]
  exact mix_nonneg h20 h21 (hT'.back m2.1) (hT'.back m2.2)
 obtain ⟨α,β,γ,hF⟩:=functional f m v w v
 have ev:=hF v
 have ew:=hF w
 have e1:=hF (atR x1 y1 t1)
 have e2:=hF (atR x2 y2 t2)
 rw [hm1] at e1
 rw [hm2] at e2
 rw [orR_aba] at ev
 rw [orR_abb] at ew
 obtain ⟨D,hD⟩:∃ D,D=valR m v - valR m w:=⟨_,rfl⟩
 have hD0:0 < D:=by grind
 rw [← hD] at ev ew e1 e2
 have hγ:0≤γ:=by
  by_cases hβ:0≤β
  ·have a:=Rat.mul_nonneg hβ (show 0≤-orR v w (atR x1 y1 t1) by grind)
   have b:=Rat.mul_nonneg (show 0≤D by grind) hf1
   grind
  ·have a:=Rat.mul_nonneg (show 0≤-β by grind) hg2
   have b:=Rat.mul_nonneg (show 0≤D by grind) hf2
   grind
 have:D*(valR f v*(-valR m w)+valR f w*valR m v)=D*γ:=by grind
 have:valR f v*(-valR m w)+valR f w*valR m v=γ:=by
  have h:=congrArg (· / D) this
  simp only [Rat.div_def] at h
  grind
 rw [this]; exact hγ
theorem hull_cut {m:Q3} {P:List Q2} {p:Q2} (hT:Turn P) (h:Hull P p) (hm:0≤valR m p):Hull (cutR m P) p:=fun f hf=>by
 obtain ⟨k,hk,h1,h2⟩:=exists_lam f m P
 have hg:∀ v∈P,0≤valR (f.1 - k*m.1,f.2.1 - k*m.2.1,f.2.2 - k*m.2.2) v:=fun v hv=>by
  have e:valR (f.1 - k*m.1,f.2.1 - k*m.2.1,f.2.2 - k*m.2.2) v=valR f v - k*valR m v:=by simp only [valR_eq]; grind
  rw [e]
  by_cases hn:valR m v < 0
  ·exact h1 v hv hn
  ·have hfv:=hf v (cut_keep hv (by grind))
   rcases h2 with rfl | ⟨w,hw,hmw,hfw⟩
   ·grind
   ·by_cases h0:valR m v=0
    ·rw [h0]; grind
    ·have:=cut_key hT hf hv hw (by grind) hmw
     rw [hfw] at this
     have e2:valR f v*-valR m w+k*valR m w*valR m v=(valR f v - k*valR m v)*(-valR m w):=by grind
     rw [e2] at this
     by_cases h3:0≤valR f v - k*valR m v
     ·exact h3
     ·have:=Rat.mul_pos (show 0 < -(valR f v - k*valR m v) by grind) (show 0 < -valR m w by grind)
      grind
 have:=h _ hg
 have e:valR (f.1 - k*m.1,f.2.1 - k*m.2.1,f.2.2 - k*m.2.2) p=valR f p - k*valR m p:=by simp only [valR_eq]; grind
 rw [e] at this
 have:=Rat.mul_nonneg hk hm
 grind
theorem cut_hull {m:Q3} {P:List Q2} {x:Q2} (h:x∈cutR m P):Hull P x∧0≤valR m x:=by
 rcases mem_cut h with ⟨h1,h2⟩ | ⟨e,he,hx⟩
 ·exact ⟨.of_mem h1,h2⟩
 ·have:=crossP_spec hx
  refine ⟨?_,by rw [this.2.2.2.2]; grind⟩
  rw [this.2.1]
  exact (Hull.of_mem (edges_mem he).1).at (.of_mem (edges_mem he).2) this.2.2.1 this.2.2.2.1
theorem hull_cut_iff {m:Q3} {P:List Q2} {p:Q2} (hT:Turn P):Hull (cutR m P) p↔Hull P p∧0≤valR m p :=
 ⟨fun h=>⟨h.trans fun v hv=>(cut_hull hv).1,h m fun v hv=>(cut_hull hv).2⟩,fun h=>hull_cut hT h.1 h.2⟩
end Go.Ae
/- Convex polygons: extreme points; a ring is given by its points. -/
namespace Go.Ae
open Go
def orL (a b:Q2):Q3:=(-(b.2 - a.2),b.1 - a.1,(b.1 - a.1)*a.2 - (b.2 - a.2)*a.1)
theorem orL_val (a b z:Q2):valR (orL a b) z=orR a b z:=by simp only [valR_eq,orR_eq,orL]; grind
def sumL (f g:Q3):Q3:=(f.1+g.1,f.2.1+g.2.1,f.2.2+g.2.2)
theorem sumL_val (f g:Q3) (z:Q2):valR (sumL f g) z=valR f z+valR g z:=by simp only [valR_eq,sumL]; grind
theorem orL_isL {a b:Q2} (h:a≠b):isL (orL a b):=fun ⟨h1,h2⟩=>h (Prod.ext (by unfold orL at h2; grind) (by unfold orL at h1; grind))
theorem consec_split {α:Type} {l:List α} {e:α × α} (h:e∈consec l):∃ A B,l=A++e.1::e.2::B:=by
 induction l with
 | nil=>cases h
 | cons a l ih =>
  cases l with
  | nil=>cases h
  | cons b l =>
   rw [consec_cons] at h
   rcases List.mem_cons.1 h with rfl | h
   ·exact ⟨[],l,rfl⟩
   ·obtain ⟨A,B,hAB⟩:=ih h
    exact ⟨a::A,B,by rw [hAB]; rfl⟩
theorem edge_rot {α:Type} {P:List α} {a b:α} (h:(a,b)∈edges P):(P=[a]∧b=a)∨∃ X Y M,P=X++Y∧Y++X=a::b::M:=by
 cases P with
 | nil=>cases h
 | cons c l =>
  obtain ⟨A,B,hAB⟩:=consec_split h
  have hAB:c::l++[c]=A++a::b::B:=hAB
  rcases List.eq_nil_or_concat B with rfl | ⟨B,d,rfl⟩
  ·have h1:c::l++[c]=(A++[a])++[b]:=by rw [hAB]; simp
   have h2:=List.append_inj' h1 rfl
   simp at h2
   obtain ⟨h2,h3⟩:=h2
   cases A with
   | nil =>
    simp at h2
    left; rw [h2.1,h2.2]; exact ⟨rfl,h3.symm.trans h2.1⟩
   | cons x A =>
    right
    refine ⟨x::A,[a],A,by rw [h2],?_⟩
    have:c=x:=by injection h2
    show a::x::A=_
    rw [← this,h3]
  ·have h1:c::l++[c]=(A++a::b::B)++[d]:=by rw [hAB]; simp
   have h2:=(List.append_inj' h1 rfl).1
   right
   exact ⟨A,a::b::B,B++A,h2,rfl⟩
theorem edge_left {P:List Q2} {a b z:Q2} (hT:Turn P) (h:(a,b)∈edges P) (hz:z∈P):0≤orR a b z:=by
 rcases edge_rot h with ⟨rfl,rfl⟩ | ⟨X,Y,M,rfl,h2⟩
 ·rw [orR_aab]; grind
 ·have hT':=hT.rot
  rw [h2] at hT'
  have hz':z∈a::b::M:=by
   rw [← h2]; rcases List.mem_append.1 hz with h | h
   ·exact List.mem_append_right _ h
   ·exact List.mem_append_left _ h
  have:=hT'.1
  unfold LeftP at this
  rw [List.pairwise_cons] at this
  rcases List.mem_cons.1 hz' with rfl | hz'
  ·rw [orR_aba]; grind
  ·rcases List.mem_cons.1 hz' with rfl | hz'
   ·rw [orR_abb]; grind
   ·exact this.1 z hz'
theorem edge_hull {P:List Q2} {a b z:Q2} (hT:Turn P) (h:(a,b)∈edges P) (hz:Hull P z):0≤orR a b z:=by
 rw [← orL_val]
 exact hz _ fun v hv=>by rw [orL_val]; exact edge_left hT h hv
/-- An extreme point. -/
def Xtr (P:List Q2) (v:Q2):Prop:=Hull P v∧∃ f,valR f v=0∧∀ z,Hull P z→z≠v→0 < valR f z
def SameH (P Q:List Q2):Prop:=∀ p,Hull P p↔Hull Q p
theorem SameH.symm {P Q:List Q2} (h:SameH P Q):SameH Q P:=fun p=>(h p).symm
theorem SameH.trans {P Q R:List Q2} (h:SameH P Q) (g:SameH Q R):SameH P R:=fun p=>(h p).trans (g p)
theorem SameH.rfl' {P:List Q2}:SameH P P:=fun p=>Iff.rfl
theorem SameH.of_mem {P Q:List Q2} (h:∀ v,v∈P↔v∈Q):SameH P Q:=fun p=>⟨fun hp=>hp.mono fun v hv=>(h v).1 hv,fun hp=>hp.mono fun v hv=>(h v).2 hv⟩
theorem Xtr.same {P Q:List Q2} {v:Q2} (h:Xtr P v) (hs:SameH P Q):Xtr Q v :=
 ⟨(hs v).1 h.1,h.2.imp fun f hf=>⟨hf.1,fun z hz hne=>hf.2 z ((hs z).2 hz) hne⟩⟩
theorem least_pos (f:Q3):∀ P:List Q2,(∀ v∈P,0 < valR f v)→∃ e:Rat,0 < e∧∀ v∈P,e≤valR f v:=by
 intro P
 induction P with
 | nil=>exact fun _=>⟨1,by grind,fun v hv=>by cases hv⟩
 | cons a P ih =>
  intro h
  obtain ⟨e,he,hP⟩:=ih fun v hv=>h v (List.mem_cons_of_mem _ hv)
  have ha:=h a (List.mem_cons_self ..)
  by_cases hc:e≤valR f a
  ·exact ⟨e,he,fun v hv=>by rcases List.mem_cons.1 hv with rfl | hv; exact hc; exact hP v hv⟩
  ·exact ⟨valR f a,ha,fun v hv=>by
    rcases List.mem_cons.1 hv with rfl | hv
    ·grind
    ·have:=hP v hv; grind⟩
theorem Xtr.mem {P:List Q2} {v:Q2} (h:Xtr P v):v∈P:=by
 refine Decidable.byContradiction fun hn=>?_
 obtain ⟨h1,f,h2,h3⟩:=h
 obtain ⟨e,he,h4⟩:=least_pos f P fun z hz=>h3 z (.of_mem hz) fun e=>hn (e ▸ hz)
 have:=h1 (f.1,f.2.1,f.2.2+e) fun z hz=>by
  have:=h4 z hz
  have e2:valR (f.1,f.2.1,f.2.2+e) z=valR f z - e:=by simp only [valR_eq]; grind
  rw [e2]; grind
 have e2:valR (f.1,f.2.1,f.2.2+e) v=valR f v - e:=by simp only [valR_eq]; grind
 rw [e2,h2] at this
 grind
theorem meet_at {p v q z:Q2} (h1:orR p v z=0) (h2:orR v q z=0) (h:orR p v q≠0):z=v:=by
 rw [orR_eq] at h1 h2 h
 have a:((v.1 - p.1)*(q.2 - p.2) - (v.2 - p.2)*(q.1 - p.1))*(z.1 - v.1)=0:=by grind
 have b:((v.1 - p.1)*(q.2 - p.2) - (v.2 - p.2)*(q.1 - p.1))*(z.2 - v.2)=0:=by grind
 have a:=(Rat.mul_eq_zero.1 a).resolve_left h
 have b:=(Rat.mul_eq_zero.1 b).resolve_left h
 exact Prod.ext (by grind) (by grind)
/-- Where the border turns, the vertex is extreme. -/
theorem ext_corner {P:List Q2} {p v q:Q2} (hT:Turn P) (h1:(p,v)∈edges P) (h2:(v,q)∈edges P) (h:orR p v q≠0):Xtr P v:=by
 refine ⟨.of_mem (edges_mem h2).1,sumL (orL p v) (orL v q),?_,fun z hz hne=>?_⟩
 ·rw [sumL_val,orL_val,orL_val,orR_abb,orR_aba]; grind
 ·rw [sumL_val,orL_val,orL_val]
  have a:=edge_hull hT h1 hz
  have b:=edge_hull hT h2 hz
  by_cases h0:orR p v z+orR v q z=0
  ·exact absurd (meet_at (by grind) (by grind) h) hne
  ·grind
theorem Xtr.not_between {P:List Q2} {v a b:Q2} {t:Rat} (h:Xtr P v) (ha:Hull P a) (hb:Hull P b) (hav:a≠v) (hbv:b≠v) (h0:0 < t) (h1:t < 1):v≠atR a b t:=fun e=>by
 obtain ⟨_,f,h2,h3⟩:=h
 have x:=h3 a ha hav
 have y:=h3 b hb hbv
 rw [e,valR_mix] at h2
 have:=Rat.mul_pos (show 0 < 1 - t by grind) x
 have:=Rat.mul_pos h0 y
 grind
/-- All on a line. -/
def Flat (P:List Q2):Prop:=∃ f,isL f∧∀ v∈P,valR f v=0
theorem not_flat {P:List Q2} {a b:Q2} (h:¬ Flat P) (hab:a≠b):∃ z∈P,orR a b z≠0:=by
 refine Decidable.byContradiction fun hn=>h ⟨orL a b,orL_isL hab,fun v hv=>?_⟩
 rw [orL_val]
 exact Decidable.byContradiction fun h=>hn ⟨v,hv,h⟩
theorem Flat.mono {P Q:List Q2} (h:Flat Q) (hs:∀ v∈P,v∈Q):Flat P:=h.imp fun f hf=>⟨hf.1,fun v hv=>hf.2 v (hs v hv)⟩
/-- Where the border does not turn, the vertex lies between its neighbours. -/
theorem between_nb {P:List Q2} {p v q:Q2} (hT:Turn P) (hF:¬ Flat P) (h1:(p,v)∈edges P) (h2:(v,q)∈edges P) (hpv:p≠v) (hvq:v≠q) (h:orR p v q=0):∃ t,0 < t∧t < 1∧v=atR p q t:=by
 obtain ⟨z,hz,hz2⟩:=not_flat hF hpv
 have a:=edge_left hT h1 hz
 have b:=edge_left hT h2 hz
 obtain ⟨s,hs1,hs2⟩:∃ s:Rat,q.1 - v.1=s*(v.1 - p.1)∧q.2 - v.2=s*(v.2 - p.2):=by
  rw [orR_eq] at h
  by_cases hx:v.1 - p.1=0
  ·have hy:v.2 - p.2≠0:=fun hy=>hpv (Prod.ext (by grind) (by grind))
   refine ⟨(q.2 - v.2) / (v.2 - p.2),?_,?_⟩
   ·rw [hx] at h ⊢
    have:(v.2 - p.2)*(q.1 - p.1)=0:=by grind
    have:=(Rat.mul_eq_zero.1 this).resolve_left hy
    grind
   ·rw [Rat.div_def]; grind
  ·refine ⟨(q.1 - v.1) / (v.1 - p.1),?_,?_⟩
   ·rw [Rat.div_def]; grind
   ·rw [Rat.div_def]
    have:(v.1 - p.1)*(q.2 - v.2)=(v.1 - p.1)*((q.1 - v.1)*(v.1 - p.1)⁻¹*(v.2 - p.2)):=by grind
    have h0:(v.1 - p.1)*((q.2 - v.2) - ((q.1 - v.1)*(v.1 - p.1)⁻¹*(v.2 - p.2)))=0:=by grind
    have:=(Rat.mul_eq_zero.1 h0).resolve_left hx
    grind
 have e:orR v q z=s*orR p v z:=by
  rw [orR_eq,orR_eq,hs1,hs2]; grind
 have hs:0 < s:=by
  by_cases h0:s=0
  ·subst h0
   exact absurd (Prod.ext (by grind) (by grind)) hvq
  ·by_cases h1:0 < s
   ·exact h1
   ·have:=Rat.mul_pos (show 0 < -s by grind) (show 0 < orR p v z by grind)
    grind
 have hne:1+s≠0:=by grind
 have hi:(1+s)⁻¹*(1+s)=1:=by grind
 have hi0:0 < (1+s)⁻¹:=by
  by_cases h1:0 < (1+s)⁻¹
  ·exact h1
  ·have:=Rat.mul_nonneg (show 0≤-(1+s)⁻¹ by grind) (show 0≤1+s by grind)
   grind
 refine ⟨(1+s)⁻¹,hi0,?_,?_⟩
 ·have:=Rat.mul_pos hi0 hs
  grind
 ·unfold atR
  refine Prod.ext ?_ ?_
  ·have:q.1 - p.1=(1+s)*(v.1 - p.1):=by grind
   show v.1=p.1+(q.1 - p.1)*(1+s)⁻¹
   rw [this]; grind
  ·have:q.2 - p.2=(1+s)*(v.2 - p.2):=by grind
   show v.2=p.2+(q.2 - p.2)*(1+s)⁻¹
   rw [this]; grind
theorem nodup_of {α:Type} [DecidableEq α]:∀ {l:List α},(∀ A h B C,l≠A++h::B++h::C)→l.Nodup:=by
 intro l
 induction l with
 | nil=>exact fun _=>.nil
 | cons a l ih =>
  intro h
  rw [List.nodup_cons]
  refine ⟨fun hm=>?_,ih fun A x B C e=>h (a::A) x B C (by rw [e]; rfl)⟩
  obtain ⟨B,C,e⟩:=List.append_of_mem hm
  exact h [] a B C (by rw [e]; rfl)
theorem Flat.rot {A B:List Q2} (h:Flat (A++B)):Flat (B++A):=h.mono fun v hv=>by
 rcases List.mem_append.1 hv with h | h
 ·exact List.mem_append_right _ h
 ·exact List.mem_append_left _ h
/-- No vertex occurs twice. -/
theorem turn_nodup {P:List Q2} (hT:Turn P) (hF:¬ Flat P) (hne:∀ e∈edges P,e.1≠e.2):P.Nodup:=by
 refine nodup_of fun A h B C e=>?_
 subst e
 have hT':Turn (h::B++h::(C++A)):=by
  have:=Turn.rot (A:=A) (B:=h::B++h::C) (by simpa using hT)
  simpa using this
 have hF':¬ Flat (h::B++h::(C++A)):=fun h2=>hF (by
  have:=Flat.rot (A:=h::B++h::C) (B:=A) (by simpa using h2)
  simpa using this)
 have hne':∀ e∈edges (h::B++h::(C++A)),e.1≠e.2:=fun e he=>hne e (by
  have:=edges_rot (A:=h::B++h::C) (B:=A) (e:=e) (by simpa using he)
  simpa using this)
 generalize C++A=D at hT' hF' hne'
 cases B with
 | nil=>exact hne' (h,h) (by rw [show h::([]:List Q2)++h::D=h::h::D from rfl,edges_cons]; exact List.mem_cons_self ..) rfl
 | cons q B =>
  cases D with
  | nil =>
   refine hne' (h,h) ?_ rfl
   show (h,h)∈consec ((h::q::B++[h])++[h])
   rw [List.append_assoc]
   show (h,h)∈consec (h::q::B++h::[h])
   rw [consec_app]
   exact List.mem_append_right _ (List.mem_cons_self ..)
  | cons r D =>
   have e1:(h,q)∈edges (h::(q::B)++h::r::D):=by
    show (h,q)∈consec (h::q::(B++h::r::D++[h]))
    exact List.mem_cons_self ..
   have e2:(h,r)∈edges (h::(q::B)++h::r::D):=by
    show (h,r)∈consec ((h::(q::B)++h::r::D)++[h])
    rw [List.append_assoc]
    show (h,r)∈consec (h::(q::B)++h::(r::D++[h]))
    rw [consec_app]
    exact List.mem_append_right _ (List.mem_cons_self ..)
   have hq:h≠q:=hne' _ e1
   have hr:h≠r:=hne' _ e2
   have hD:∀ z∈r::D,orR h q z=0:=fun z hz=>by
    have a:=edge_left hT' e1 (z:=z) (List.mem_append_right _ (List.mem_cons_of_mem _ hz))
    have hl:Turn (q::B++h::r::D):=hT'.2
    have:=Turn.mid (A:=B) (B:=r::D) (x:=z) (v:=q) (w:=h)
    have hb:=Turn.back (A:=B) (B:=r::D) (x:=z) (v:=q) (w:=h) hl (by
     show z∈h::(r::D)++[q]
     exact List.mem_append_left _ (List.mem_cons_of_mem _ hz))
    have:orR q h z=-orR h q z:=by rw [orR_eq,orR_eq]; grind
    grind
   have hB:∀ z∈q::B,orR h r z=0:=fun z hz=>by
    have a:=edge_left hT' e2 (z:=z) (List.mem_append_left _ (List.mem_cons_of_mem _ hz))
    have hl:List.Pairwise (fun b c=>0≤orR h b c) (q::B++h::r::D):=hT'.1
    rw [List.pairwise_append] at hl
    have:=hl.2.2 z hz r (List.mem_cons_of_mem _ (List.mem_cons_self ..))
    rw [orR_swap] at this
    grind
   refine hF' ⟨orL h q,orL_isL hq,fun v hv=>?_⟩
   rw [orL_val]
   have hqr:=hB q (List.mem_cons_self ..)
   rcases List.mem_append.1 hv with hv | hv
   ·rcases List.mem_cons.1 hv with rfl | hv
    ·exact orR_aba _ _
    ·have hv2:=hB v hv
     rw [orR_eq] at hv2 hqr ⊢
     have hne2:r.1 - h.1≠0∨r.2 - h.2≠0:=by
      by_cases x:r.1 - h.1=0
      ·right; exact fun y=>hr (Prod.ext (by grind) (by grind))
      ·exact .inl x
     rcases hne2 with x | x
     ·have:(r.1 - h.1)*((q.1 - h.1)*(v.2 - h.2) - (q.2 - h.2)*(v.1 - h.1))=0:=by grind
      exact (Rat.mul_eq_zero.1 this).resolve_left x
     ·have:(r.2 - h.2)*((q.1 - h.1)*(v.2 - h.2) - (q.2 - h.2)*(v.1 - h.1))=0:=by grind
      exact (Rat.mul_eq_zero.1 this).resolve_left x
   ·rcases List.mem_cons.1 hv with rfl | hv
    ·exact orR_aba _ _
    ·exact hD v hv
/-- Sorted lists with the same elements are equal. -/
theorem sorted_unique {α:Type} {R:α→α→Prop} (has:∀ a b,R a b→¬ R b a):∀ {l m:List α},l.Pairwise R→m.Pairwise R→(∀ x,x∈l↔x∈m)→l=m:=by
 intro l
 induction l with
 | nil =>
  intro m _ _ h
  cases m with
  | nil=>rfl
  | cons b m=>have:=(h b).2 (List.mem_cons_self ..); cases this
 | cons a l ih =>
  intro m hl hm h
  cases m with
  | nil=>have:=(h a).1 (List.mem_cons_self ..); cases this
  | cons b m =>
   rw [List.pairwise_cons] at hl hm
   have irr:∀ x,¬ R x x:=fun x hx=>has x x hx hx
   have hab:a=b:=by
    rcases List.mem_cons.1 ((h a).1 (List.mem_cons_self ..)) with e | e
    ·exact e
    ·rcases List.mem_cons.1 ((h b).2 (List.mem_cons_self ..)) with e2 | e2
     ·exact e2.symm
     ·exact absurd (hl.1 b e2) (has _ _ (hm.1 a e))
   subst hab
   rw [ih hl.2 hm.2 fun x=>⟨fun hx=>?_,fun hx=>?_⟩]
   ·rcases List.mem_cons.1 ((h x).1 (List.mem_cons_of_mem _ hx)) with e | e
    ·subst e; exact absurd (hl.1 _ hx) (irr _)
    ·exact e
   ·rcases List.mem_cons.1 ((h x).2 (List.mem_cons_of_mem _ hx)) with e | e
    ·subst e; exact absurd (hm.1 _ hx) (irr _)
    ·exact e
theorem collinear_ext {P:List Q2} {a b c:Q2} (ha:Xtr P a) (hb:Xtr P b) (hc:Xtr P c) (hab:a≠b) (hac:a≠c) (hbc:b≠c):orR a b c≠0:=fun h=>by
 obtain ⟨s,hs1,hs2⟩:∃ s:Rat,c.1 - a.1=s*(b.1 - a.1)∧c.2 - a.2=s*(b.2 - a.2):=by
  rw [orR_eq] at h
  by_cases hx:b.1 - a.1=0
  ·have hy:b.2 - a.2≠0:=fun hy=>hab (Prod.ext (by grind) (by grind))
   refine ⟨(c.2 - a.2) / (b.2 - a.2),?_,?_⟩
   ·rw [hx] at h ⊢
    have:(b.2 - a.2)*(c.1 - a.1)=0:=by grind
    have:=(Rat.mul_eq_zero.1 this).resolve_left hy
    grind
   ·rw [Rat.div_def]; grind
  ·refine ⟨(c.1 - a.1) / (b.1 - a.1),?_,?_⟩
   ·rw [Rat.div_def]; grind
   ·rw [Rat.div_def]
    have h0:(b.1 - a.1)*((c.2 - a.2) - ((c.1 - a.1)*(b.1 - a.1)⁻¹*(b.2 - a.2)))=0:=by grind
    have:=(Rat.mul_eq_zero.1 h0).resolve_left hx
    grind
 have h0:s≠0:=fun e=>by subst e; exact hac (Prod.ext (by grind) (by grind))
 have h1:s≠1:=fun e=>by subst e; exact hbc (Prod.ext (by grind) (by grind))
 have inv:∀ x:Rat,0 < x→0 < x⁻¹∧x⁻¹*x=1:=fun x hx=>by
  have e:x⁻¹*x=1:=by grind
  refine ⟨?_,e⟩
  by_cases h1:0 < x⁻¹
  ·exact h1
  ·have:=Rat.mul_nonneg (show 0≤-x⁻¹ by grind) (show 0≤x by grind)
   grind
 rcases tri s with h | h | h
 ·-- a lies between c and b
  obtain ⟨i0,i1⟩:=inv (1 - s) (by grind)
  refine ha.not_between hc.1 hb.1 (Ne.symm hac) (Ne.symm hab) (t:=(-s)*(1 - s)⁻¹) (Rat.mul_pos (by grind) i0) ?_ ?_
  ·grind
  ·unfold atR; exact Prod.ext (by grind) (by grind)
 ·exact h0 h
 ·by_cases h2:s < 1
  ·-- c lies between a and b
   refine hc.not_between ha.1 hb.1 hac hbc h h2 ?_
   unfold atR; exact Prod.ext (by grind) (by grind)
  ·obtain ⟨i0,i1⟩:=inv s h
   refine hb.not_between ha.1 hc.1 hab (Ne.symm hbc) (t:=s⁻¹) i0 ?_ ?_
   ·have:=Rat.mul_pos i0 (show 0 < s - 1 by grind); grind
   ·unfold atR; exact Prod.ext (by grind) (by grind)
/-- A ring of extreme points is given by the hull and its first point. -/
theorem ring_unique {P:List Q2} {h:Q2} {A B:List Q2} (hA:Turn (h::A)) (hB:Turn (h::B)) (nA:(h::A).Nodup) (nB:(h::B).Nodup) (eA:∀ v,v∈h::A↔Xtr P v) (eB:∀ v,v∈h::B↔Xtr P v):A=B:=by
 have key:∀ {A:List Q2},Turn (h::A)→(h::A).Nodup→(∀ v,v∈h::A↔Xtr P v)→A.Pairwise (fun a b=>0 < orR h a b):=by
  intro A hA nA eA
  rw [List.nodup_cons] at nA
  have h1:List.Pairwise (fun a b=>0≤orR h a b) A:=hA.1
  have h2:List.Pairwise (fun a b=>a≠b) A:=nA.2
  have h3:=List.Pairwise.and_mem.1 (h1.and h2)
  refine h3.imp fun {a b} ⟨ha,hb,h4,h5⟩=>?_
  have:=collinear_ext ((eA h).1 (List.mem_cons_self ..)) ((eA a).1 (List.mem_cons_of_mem _ ha)) ((eA b).1 (List.mem_cons_of_mem _ hb)) (fun e=>nA.1 (e ▸ ha)) (fun e=>nA.1 (e ▸ hb)) h5
  grind
 rw [List.nodup_cons] at nA nB
 refine sorted_unique (R:=fun a b=>0 < orR h a b) (fun a b x y=>by rw [orR_swap] at y; grind) (key hA (List.nodup_cons.2 nA) eA) (key hB (List.nodup_cons.2 nB) eB) fun x=>?_
 constructor
 ·intro hx
  have:=(eB x).2 ((eA x).1 (List.mem_cons_of_mem _ hx))
  rcases List.mem_cons.1 this with e | e
  ·subst e; exact absurd hx nA.1
  ·exact e
 ·intro hx
  have:=(eA x).2 ((eB x).1 (List.mem_cons_of_mem _ hx))
  rcases List.mem_cons.1 this with e | e
  ·subst e; exact absurd hx nB.1
  ·exact e
end Go.Ae
/- Convex polygons: needless vertices left out. -/
namespace Go.Ae
open Go
def at2 (l:List Q2) (k:Nat):Q2:=l.getD k (0,0)
theorem at2_some {l:List Q2} {k:Nat} (h:k < l.length):l[k]?=some (at2 l k):=by
 unfold at2; rw [List.getD_eq_getElem?_getD,List.getElem?_eq_getElem h]; rfl
theorem at2_of {l:List Q2} {k:Nat} {p:Q2} (h:l[k]?=some p):at2 l k=p:=by
 unfold at2; rw [List.getD_eq_getElem?_getD,h]; rfl
theorem at2_mem {l:List Q2} {k:Nat} (h:k < l.length):at2 l k∈l:=List.mem_of_getElem? (at2_some h)
theorem mem_at2 {l:List Q2} {v:Q2} (h:v∈l):∃ k,k < l.length∧at2 l k=v:=by
 obtain ⟨k,hk,rfl⟩:=List.getElem_of_mem h
 exact ⟨k,hk,at2_of (List.getElem?_eq_getElem hk)⟩
def nxt (n k:Nat):Nat:=(k+1) % n
def prv (n k:Nat):Nat:=(k+n - 1) % n
theorem nxt_lt {n k:Nat} (h:k < n):nxt n k < n:=Nat.mod_lt _ (by omega)
theorem prv_lt {n k:Nat} (h:k < n):prv n k < n:=Nat.mod_lt _ (by omega)
theorem nxt_prv {n k:Nat} (h:k < n):nxt n (prv n k)=k:=by
 unfold nxt prv
 rw [Nat.mod_add_mod,show k+n - 1+1=k+n by omega,Nat.add_mod_right,Nat.mod_eq_of_lt h]
theorem nxt_ne {n k:Nat} (h:k < n) (hn:1 < n):nxt n k≠k:=fun e=>by
 unfold nxt at e
 rcases Nat.lt_or_eq_of_le (show k+1≤n from h) with h1 | h1
 ·rw [Nat.mod_eq_of_lt h1] at e; omega
 ·rw [h1,Nat.mod_self] at e; omega
theorem prv_ne {n k:Nat} (h:k < n) (hn:1 < n):prv n k≠k:=fun e=>by
 have h1:=nxt_prv h
 rw [e] at h1
 exact nxt_ne h hn h1
theorem edge_at {l:List Q2} {k:Nat} (h:k < l.length):(at2 l k,at2 l (nxt l.length k))∈edges l:=List.mem_of_getElem? (edges_get (at2_some h) (at2_some (nxt_lt h)))
theorem edge_prv {l:List Q2} {k:Nat} (h:k < l.length):(at2 l (prv l.length k),at2 l k)∈edges l:=by
 have:=edge_at (l:=l) (prv_lt h)
 rwa [nxt_prv h] at this
theorem edge_idx {l:List Q2} {e:Q2 × Q2} (h:e∈edges l):∃ k,k < l.length∧e=(at2 l k,at2 l (nxt l.length k)):=by
 obtain ⟨i,hi,rfl⟩:=List.getElem_of_mem h
 have hi':i < l.length:=by rwa [edges_length] at hi
 refine ⟨i,hi',?_⟩
 have:=edges_get (at2_some hi') (at2_some (nxt_lt hi'))
 rw [List.getElem?_eq_getElem hi] at this
 exact Option.some.inj this
/-- A vertex that is not needed. -/
def nd (l:List Q2) (k:Nat):Prop:=1 < l.length∧(at2 l k=at2 l (nxt l.length k)∨2 < l.length∧orR (at2 l (prv l.length k)) (at2 l k) (at2 l (nxt l.length k))=0)
instance (l:List Q2) (k:Nat):Decidable (nd l k):=inferInstanceAs (Decidable (_∧_))
def firstNd (l:List Q2):Option Nat:=(List.range l.length).find? fun k=>decide (nd l k)
def cleanF:Nat→List Q2→List Q2
 | 0,l=>l
 | n+1,l=>match firstNd l with | none=>l | some k=>cleanF n (l.eraseIdx k)
def cleanL (l:List Q2):List Q2:=cleanF l.length l
theorem firstNd_none {l:List Q2} (h:∀ k,k < l.length→¬ nd l k):firstNd l=none:=by
 unfold firstNd
 rw [List.find?_eq_none]
 intro k hk
 simpa using h k (List.mem_range.1 hk)
theorem firstNd_none' {l:List Q2} (h:firstNd l=none):∀ k,k < l.length→¬ nd l k:=fun k hk=>by
 unfold firstNd at h
 rw [List.find?_eq_none] at h
 simpa using h k (List.mem_range.2 hk)
theorem firstNd_some {l:List Q2} {k:Nat} (hk:k < l.length) (h:nd l k) (h2:∀ j,j < k→¬ nd l j):firstNd l=some k:=by
 unfold firstNd
 rw [List.find?_range_eq_some]
 exact ⟨by simpa using h,List.mem_range.2 hk,fun j hj=>by simpa using h2 j hj⟩
theorem firstNd_some' {l:List Q2} {k:Nat} (h:firstNd l=some k):k < l.length∧nd l k:=by
 unfold firstNd at h
 rw [List.find?_range_eq_some] at h
 exact ⟨List.mem_range.1 h.2.1,by simpa using h.1⟩
theorem cleanL_stop {l:List Q2} (h:firstNd l=none):cleanL l=l:=by
 unfold cleanL
 cases l with
 | nil=>rfl
 | cons a l=>show (match firstNd (a::l) with | none=>_ | some k=>_)=_; rw [h]
theorem cleanL_step {l:List Q2} {k:Nat} (h:firstNd l=some k):cleanL l=cleanL (l.eraseIdx k):=by
 have hk:=(firstNd_some' h).1
 unfold cleanL
 rw [List.length_eraseIdx_of_lt hk]
 obtain ⟨n,hn⟩:∃ n,l.length=n+1:=⟨l.length - 1,by omega⟩
 rw [hn]
 show (match firstNd l with | none=>l | some k=>cleanF n (l.eraseIdx k))=_
 rw [h]; rfl
theorem clean_ind {C:List Q2→Prop} (hs:∀ l k,firstNd l=some k→C (l.eraseIdx k)→C l) (h0:∀ l,firstNd l=none→C l):∀ (n:Nat) (l:List Q2),l.length=n→C l:=by
 intro n
 induction n with
 | zero=>intro l hl; exact h0 l (firstNd_none fun k hk=>by omega)
 | succ n ih =>
  intro l hl
  cases e:firstNd l with
  | none=>exact h0 l e
  | some k=>exact hs l k e (ih _ (by rw [List.length_eraseIdx_of_lt (firstNd_some' e).1]; omega))
theorem clean_sub (l:List Q2):(cleanL l).Sublist l :=
 clean_ind (C:=fun l=>(cleanL l).Sublist l) (fun l k h hc=>by rw [cleanL_step h]; exact hc.trans (List.eraseIdx_sublist ..)) (fun l h=>by rw [cleanL_stop h]; exact List.Sublist.refl _) _ l rfl
theorem clean_no (l:List Q2):∀ k,k < (cleanL l).length→¬ nd (cleanL l) k :=
 clean_ind (C:=fun l=>∀ k,k < (cleanL l).length→¬ nd (cleanL l) k) (fun l k h hc=>by rw [cleanL_step h]; exact hc) (fun l h=>by rw [cleanL_stop h]; exact firstNd_none' h) _ l rfl
theorem mem_erase {l:List Q2} {k j:Nat} (hj:j < l.length) (h:j≠k):at2 l j∈l.eraseIdx k:=by
 rw [List.mem_eraseIdx_iff_getElem?]
 exact ⟨j,h,at2_some hj⟩
theorem erase_back {l:List Q2} {k:Nat} {v:Q2} (h:v∈l):v∈l.eraseIdx k∨(k < l.length∧v=at2 l k):=by
 obtain ⟨j,hj,rfl⟩:=mem_at2 h
 by_cases e:j=k
 ·subst e; exact .inr ⟨hj,rfl⟩
 ·exact .inl (mem_erase hj e)
theorem atR_flat {f:Q3} {a b:Q2} {t:Rat} (ha:valR f a=0) (hb:valR f b=0):valR f (atR a b t)=0:=by rw [valR_mix,ha,hb]; grind
theorem clean_step {l:List Q2} {k:Nat} (hT:Turn l) (hF:¬ Flat l) (hk:k < l.length) (h:nd l k):SameH (l.eraseIdx k) l∧¬ Flat (l.eraseIdx k):=by
 obtain ⟨h1,h2⟩:=h
 have key:∀ (P:Q2→Prop),(∀ v∈l.eraseIdx k,P v)→(∀ a b t,P a→P b→0 < t→t < 1→P (atR a b t))→∀ v∈l,P v:=by
  intro P hP hm v hv
  rcases erase_back (k:=k) hv with h | ⟨_,rfl⟩
  ·exact hP v h
  ·by_cases e1:at2 l k=at2 l (nxt l.length k)
   ·rw [e1]; exact hP _ (mem_erase (nxt_lt hk) (nxt_ne hk h1))
   ·by_cases e2:at2 l (prv l.length k)=at2 l k
    ·rw [← e2]; exact hP _ (mem_erase (prv_lt hk) (prv_ne hk h1))
    ·rcases h2 with h2 | ⟨h2,h3⟩
     ·exact absurd h2 e1
     ·obtain ⟨t,t0,t1,ht⟩:=between_nb hT hF (edge_prv hk) (edge_at hk) e2 e1 h3
      rw [ht]
      exact hm _ _ _ (hP _ (mem_erase (prv_lt hk) (prv_ne hk h1))) (hP _ (mem_erase (nxt_lt hk) (nxt_ne hk h1))) t0 t1
 refine ⟨fun p=>⟨fun hp=>hp.mono fun v hv=>(List.eraseIdx_sublist ..).subset hv,fun hp=>hp.trans ?_⟩,fun ⟨f,hf,hz⟩=>hF ⟨f,hf,?_⟩⟩
 ·exact key _ (fun v hv=>.of_mem hv) fun a b t ha hb t0 t1=>ha.at hb (by grind) (by grind)
 ·exact key _ hz fun a b t ha hb _ _=>atR_flat ha hb
theorem clean_same {l:List Q2} (hT:Turn l) (hF:¬ Flat l):SameH (cleanL l) l∧¬ Flat (cleanL l) :=
 clean_ind (C:=fun l=>Turn l→¬ Flat l→SameH (cleanL l) l∧¬ Flat (cleanL l)) (fun l k h hc hT hF=>by
  rw [cleanL_step h]
  have h2:=firstNd_some' h
  obtain ⟨a,b⟩:=clean_step hT hF h2.1 h2.2
  obtain ⟨c,d⟩:=hc (hT.sublist (List.eraseIdx_sublist ..)) b
  exact ⟨c.trans a,d⟩) (fun l h hT hF=>by rw [cleanL_stop h]; exact ⟨.rfl',hF⟩) _ l rfl hT hF
theorem flat_or {P:List Q2} (h:Flat P) {a b c:Q2} (ha:a∈P) (hb:b∈P) (hc:c∈P):orR a b c=0:=by
 obtain ⟨f,hf,hz⟩:=h
 have x:=hz a ha
 have y:=hz b hb
 have z:=hz c hc
 rw [valR_eq] at x y z
 rw [orR_eq]
 by_cases h0:f.1=0
 ·have h1:f.2.1≠0:=fun e=>hf ⟨h0,e⟩
  have e:f.2.1*((b.1 - a.1)*(c.2 - a.2) - (b.2 - a.2)*(c.1 - a.1))=0:=by grind
  exact (Rat.mul_eq_zero.1 e).resolve_left h1
 ·have e:f.1*((b.1 - a.1)*(c.2 - a.2) - (b.2 - a.2)*(c.1 - a.1))=0:=by grind
  exact (Rat.mul_eq_zero.1 e).resolve_left h0
theorem line_through (a b:Q2):∃ f:Q3,isL f∧valR f a=0∧valR f b=0:=by
 by_cases h:a=b
 ·subst h
  exact ⟨(1,0,a.1),fun h=>absurd (show (1:Rat)=0 from h.1) (by decide),by rw [valR_eq]; grind,by rw [valR_eq]; grind⟩
 ·exact ⟨orL a b,orL_isL h,by rw [orL_val,orR_aba],by rw [orL_val,orR_abb]⟩
theorem short_flat {P:List Q2} (h:P.length≤2):Flat P:=by
 match P,h with
 | [],_=>exact ⟨(1,0,0),fun h=>absurd h.1 (by decide),fun v hv=>by cases hv⟩
 | [a],_ =>
  obtain ⟨f,hf,h1,_⟩:=line_through a a
  exact ⟨f,hf,fun v hv=>by simp at hv; rw [hv]; exact h1⟩
 | [a,b],_ =>
  obtain ⟨f,hf,h1,h2⟩:=line_through a b
  exact ⟨f,hf,fun v hv=>by simp at hv; rcases hv with rfl | rfl <;> assumption⟩
 | _::_::_::_,h=>simp at h
theorem clean_flat {l:List Q2} (hF:Flat l):(cleanL l).length≤2:=by
 refine Decidable.byContradiction fun h=>?_
 have h0:=clean_no l 0 (by omega)
 refine h0 ⟨by omega,.inr ⟨by omega,?_⟩⟩
 have hF':Flat (cleanL l):=hF.mono fun v hv=>(clean_sub l).subset hv
 exact flat_or hF' (at2_mem (prv_lt (by omega))) (at2_mem (by omega)) (at2_mem (nxt_lt (by omega)))
/-- A ring: it turns at each vertex. -/
structure Ring (P:List Q2):Prop where
 turn:Turn P
 three:3≤P.length
 corner:∀ k,k < P.length→0 < orR (at2 P (prv P.length k)) (at2 P k) (at2 P (nxt P.length k))
theorem Ring.ne {P:List Q2} (h:Ring P):∀ e∈edges P,e.1≠e.2:=fun e he=>by
 obtain ⟨k,hk,rfl⟩:=edge_idx he
 intro e2
 have:=h.corner k hk
 simp only at e2
 rw [e2,orR_abb] at this
 grind
theorem Ring.ext {P:List Q2} (h:Ring P) {v:Q2}:v∈P↔Xtr P v:=by
 refine ⟨fun hv=>?_,Xtr.mem⟩
 obtain ⟨k,hk,rfl⟩:=mem_at2 hv
 have:=h.corner k hk
 exact ext_corner h.turn (edge_prv hk) (edge_at hk) (by grind)
theorem Ring.solid {P:List Q2} (h:Ring P):¬ Flat P:=fun hF=>by
 have hk:0 < P.length:=by have:=h.three; omega
 have:=h.corner 0 hk
 rw [flat_or hF (at2_mem (prv_lt hk)) (at2_mem hk) (at2_mem (nxt_lt hk))] at this
 grind
theorem Ring.nodup {P:List Q2} (h:Ring P):P.Nodup:=turn_nodup h.turn h.solid h.ne
theorem ring_of {P:List Q2} (hT:Turn P) (hF:¬ Flat P) (hn:∀ k,k < P.length→¬ nd P k):Ring P:=by
 have h3:3≤P.length:=Decidable.byContradiction fun h=>hF (short_flat (by omega))
 refine ⟨hT,h3,fun k hk=>?_⟩
 have a:=edge_left hT (edge_prv hk) (at2_mem (nxt_lt hk))
 have b:orR (at2 P (prv P.length k)) (at2 P k) (at2 P (nxt P.length k))≠0:=fun e=>hn k hk ⟨by omega,.inr ⟨by omega,e⟩⟩
 grind
theorem clean_ring {l:List Q2} (hT:Turn l) (hF:¬ Flat l):Ring (cleanL l):=ring_of (hT.sublist (clean_sub l)) (clean_same hT hF).2 (clean_no l)
/-! the least first -/
def leastUp (l:List Q2):Nat→Nat
 | 0=>0
 | i+1=>if cmpR (at2 l i) (at2 l (leastUp l i)) < 0 then i else leastUp l i
def leastI (l:List Q2):Nat:=leastUp l l.length
def rotR (l:List Q2):List Q2:=l.drop (leastI l)++l.take (leastI l)
def leP (a b:Q2):Prop:=a.1 < b.1∨a.1=b.1∧a.2≤b.2
theorem leP_iff {a b:Q2}:leP a b↔¬ cmpR b a < 0:=by
 unfold leP cmpR
 rcases cmpQ_cases (b.1 - a.1) with ⟨h1,h2⟩ | ⟨h1,h2⟩ | ⟨h1,h2⟩
 ·rw [cmpQ_sub b.1 a.1,h2]
  constructor
  ·rintro (h | ⟨h,_⟩) <;> grind
  ·intro h; exact absurd (by rw [if_pos (by decide)]; decide) h
 ·rw [cmpQ_sub b.1 a.1,h2,if_neg (by decide),cmpQ_neg]
  constructor
  ·rintro (h | ⟨h,h3⟩) <;> grind
  ·intro h; right; exact ⟨by grind,by grind⟩
 ·rw [cmpQ_sub b.1 a.1,h2]
  constructor
  ·intro _; rw [if_pos (by decide)]; decide
  ·intro _; left; grind
theorem leP_trans {a b c:Q2} (h:leP a b) (g:leP b c):leP a c:=by unfold leP at *; grind
theorem leP_anti {a b:Q2} (h:leP a b) (g:leP b a):a=b:=by
 unfold leP at *
 exact Prod.ext (by grind) (by grind)
theorem leP_refl (a:Q2):leP a a:=by unfold leP; right; exact ⟨rfl,by grind⟩
theorem leP_total {a b:Q2} (h:¬ leP a b):leP b a:=by unfold leP at *; grind
theorem leastUp_spec (l:List Q2):∀ i,i≤l.length→(0 < l.length→leastUp l i < l.length)∧(∀ j,j < i→leP (at2 l (leastUp l i)) (at2 l j)):=by
 intro i
 induction i with
 | zero=>intro _; exact ⟨fun h=>h,fun j hj=>absurd hj (Nat.not_lt_zero _)⟩
 | succ i ih =>
  intro hi
  obtain ⟨h1,h2⟩:=ih (by omega)
  unfold leastUp
  split
  ·rename_i hc
   have hle:leP (at2 l i) (at2 l (leastUp l i)):=leP_total fun h=>(leP_iff.1 h) hc
   refine ⟨fun _=>by omega,fun j hj=>?_⟩
   rcases Nat.lt_or_eq_of_le (Nat.le_of_lt_succ hj) with h | h
   ·exact leP_trans hle (h2 j h)
   ·subst h; exact leP_refl _
  ·rename_i hc
   refine ⟨h1,fun j hj=>?_⟩
   rcases Nat.lt_or_eq_of_le (Nat.le_of_lt_succ hj) with h | h
   ·exact h2 j h
   ·subst h; exact leP_iff.2 hc
theorem rotR_mem {l:List Q2} {v:Q2}:v∈rotR l↔v∈l:=by
 unfold rotR
 rw [List.mem_append]
 constructor
 ·rintro (h | h)
  ·exact List.mem_of_mem_drop h
  ·exact List.mem_of_mem_take h
 ·intro h
  rw [← List.take_append_drop (leastI l) l,List.mem_append] at h
  exact h.symm
theorem rotR_length (l:List Q2):(rotR l).length=l.length:=by
 unfold rotR
 rw [List.length_append,List.length_drop,List.length_take]; omega
theorem rotR_turn {l:List Q2} (h:Turn l):Turn (rotR l):=Turn.rot (by rw [List.take_append_drop]; exact h)
theorem rotR_nodup {l:List Q2} (h:l.Nodup):(rotR l).Nodup:=by
 have hp:(rotR l).Perm l:=by
  unfold rotR
  refine List.perm_append_comm.trans ?_
  rw [List.take_append_drop]
 exact hp.nodup_iff.2 h
theorem rotR_head {l:List Q2} (h:l≠[]):∃ a A,rotR l=a::A∧∀ v∈l,leP a v:=by
 have hl:0 < l.length:=List.length_pos_iff.2 h
 have hs:=leastUp_spec l l.length (Nat.le_refl _)
 refine ⟨at2 l (leastI l),l.drop (leastI l+1)++l.take (leastI l),?_,fun v hv=>?_⟩
 ·unfold rotR
  have hlt:leastI l < l.length:=hs.1 hl
  rw [List.drop_eq_getElem_cons hlt]
  have:l[leastI l]'hlt=at2 l (leastI l):=by
   have:=at2_some hlt
   rw [List.getElem?_eq_getElem hlt] at this
   exact Option.some.inj this
  rw [List.cons_append,this]
 ·obtain ⟨j,hj,rfl⟩:=mem_at2 hv
  exact hs.2 j hj
/-- Rings of the same points, from the least one on, are equal. -/
theorem least_unique {P A B:List Q2} (hA:Turn A) (hB:Turn B) (nA:A.Nodup) (nB:B.Nodup) (eA:∀ v,v∈A↔Xtr P v) (eB:∀ v,v∈B↔Xtr P v):rotR A=rotR B:=by
 by_cases hA0:A=[]
 ·subst hA0
  have:B=[]:=by
   cases B with
   | nil=>rfl
   | cons b B=>have:=(eA b).2 ((eB b).1 (List.mem_cons_self ..)); cases this
  rw [this]
 ·have hB0:B≠[]:=fun e=>by
   subst e
   cases A with
   | nil=>exact hA0 rfl
   | cons b B=>have:=(eB b).2 ((eA b).1 (List.mem_cons_self ..)); cases this
  obtain ⟨a,A',ha,la⟩:=rotR_head hA0
  obtain ⟨b,B',hb,lb⟩:=rotR_head hB0
  have ha':a∈A:=rotR_mem.1 (by rw [ha]; exact List.mem_cons_self ..)
  have hb':b∈B:=rotR_mem.1 (by rw [hb]; exact List.mem_cons_self ..)
  have hab:a=b:=leP_anti (la b ((eA b).2 ((eB b).1 hb'))) (lb a ((eB a).2 ((eA a).1 ha')))
  subst hab
  rw [ha,hb]
  congr 1
  refine ring_unique (P:=P) (h:=a) (by rw [← ha]; exact rotR_turn hA) (by rw [← hb]; exact rotR_turn hB) (by rw [← ha]; exact rotR_nodup nA) (by rw [← hb]; exact rotR_nodup nB) (fun v=>?_) (fun v=>?_)
  ·rw [← ha,rotR_mem]; exact eA v
  ·rw [← hb,rotR_mem]; exact eB v
theorem Xtr.iff {P Q:List Q2} (h:SameH P Q) (v:Q2):Xtr P v↔Xtr Q v:=⟨fun x=>x.same h,fun x=>x.same h.symm⟩
end Go.Ae
/- Convex polygons: the reference's ring is the program's. -/
namespace Go.Ae
open Go
theorem cmpR_eq0 {a b:Q2}:cmpR a b=0↔a=b:=cmpR_zero.trans ⟨fun h=>Prod.ext h.1 h.2,fun h=>by rw [h]; exact ⟨rfl,rfl⟩⟩
def distF (e:Q2 × Q2):List Q2:=if cmpR e.1 e.2≠0 then [e.1] else []
def distinctR (l:List Q2):List Q2:=(edges l).flatMap distF
def cornF (l:List Q2) (i:Nat):List Q2:=if orR (at2 l (prv l.length i)) (at2 l i) (at2 l (nxt l.length i))≠0 then [at2 l i] else []
def cornersR (l:List Q2):List Q2:=(List.range l.length).flatMap (cornF l)
def ringR (l:List Q2):List Q2:=if (cornersR (distinctR l)).length < 3 then [] else rotR (cornersR (distinctR l))
theorem flatMap_sub {α β:Type} (g:α→β) (f:α→List β) (h:∀ a,(f a).Sublist [g a]):∀ l:List α,(l.flatMap f).Sublist (l.map g)
 | []=>.slnil
 | a::l=>by
  rw [List.flatMap_cons,List.map_cons]
  exact (h a).append (flatMap_sub g f h l)
theorem edges_fst {α:Type} (l:List α):(edges l).map Prod.fst=l:=by
 refine List.ext_getElem (by rw [List.length_map,edges_length]) fun i h1 h2=>?_
 have h3:(i+1) % l.length < l.length:=Nat.mod_lt _ (by omega)
 have:=edges_get (List.getElem?_eq_getElem h2) (List.getElem?_eq_getElem h3)
 rw [List.getElem_map]
 rw [List.length_map] at h1
 rw [List.getElem?_eq_getElem h1] at this
 rw [Option.some.inj this]
theorem distinct_sub (l:List Q2):(distinctR l).Sublist l:=by
 have:=flatMap_sub Prod.fst distF (fun e=>by
  unfold distF
  split
  ·exact List.Sublist.refl _
  ·exact List.nil_sublist _) (edges l)
 rw [edges_fst] at this
 exact this
theorem map_at2 (l:List Q2):(List.range l.length).map (at2 l)=l:=by
 refine List.ext_getElem (by simp) fun i h1 h2=>?_
 simp
 exact at2_of (List.getElem?_eq_getElem h2)
theorem corners_sub (l:List Q2):(cornersR l).Sublist l:=by
 have:=flatMap_sub (at2 l) (cornF l) (fun e=>by
  unfold cornF
  split
  ·exact List.Sublist.refl _
  ·exact List.nil_sublist _) (List.range l.length)
 rw [map_at2] at this
 exact this
theorem dd_spec (z:Q2):∀ (L:List Q2) (a:Q2),(a::L).getLast?=some z→((consec (a::L)).flatMap distF++[z]).head?=some a∧∀ e∈consec ((consec (a::L)).flatMap distF++[z]),e.1≠e.2:=by
 intro L
 induction L with
 | nil =>
  intro a h
  simp at h
  subst h
  exact ⟨rfl,fun e he=>by cases he⟩
 | cons b L ih =>
  intro a h
  obtain ⟨h1,h2⟩:=ih b (by rw [List.getLast?_cons_cons] at h; exact h)
  rw [consec_cons,List.flatMap_cons,List.append_assoc]
  obtain ⟨X,hX⟩:∃ X,X=(consec (b::L)).flatMap distF++[z]:=⟨_,rfl⟩
  rw [← hX] at h1 h2 ⊢
  unfold distF
  by_cases hab:a=b
  ·rw [if_neg (by simp only [ne_eq]; exact fun h=>h (cmpR_eq0.2 hab))]
   rw [hab]; exact ⟨h1,h2⟩
  ·rw [if_pos (fun h=>hab (cmpR_eq0.1 h))]
   refine ⟨rfl,?_⟩
   cases X with
   | nil=>simp at h1
   | cons c X =>
    simp at h1
    subst h1
    intro e he
    rw [show [(a,c).1]++c::X=a::c::X from rfl,consec_cons] at he
    rcases List.mem_cons.1 he with rfl | he
    ·exact hab
    ·exact h2 e he
theorem distinct_ne (l:List Q2):∀ e∈edges (distinctR l),e.1≠e.2:=by
 cases l with
 | nil=>intro e he; cases he
 | cons h B =>
  obtain ⟨h1,h2⟩:=dd_spec h (B++[h]) h (by rw [← List.cons_append,List.getLast?_append]; rfl)
  have hd:distinctR (h::B)=(consec (h::(B++[h]))).flatMap distF:=rfl
  rw [← hd] at h1 h2
  cases hD:distinctR (h::B) with
  | nil=>intro e he; cases he
  | cons d D =>
   rw [hD] at h1 h2
   simp at h1
   subst h1
   intro e he
   exact h2 e he
theorem consec_more {α:Type} {l m:List α} {e:α × α} (h:e∈consec l):e∈consec (l++m):=by
 obtain ⟨A,B,rfl⟩:=consec_split h
 rw [List.append_assoc,List.cons_append,consec_app]
 exact List.mem_append_right _ (List.mem_cons_self ..)
theorem leave {v:Q2}:∀ (l:List Q2),(∃ w∈l,w≠v)→∃ y,(v,y)∈consec (v::l)∧v≠y:=by
 intro l
 induction l with
 | nil=>rintro ⟨w,hw,_⟩; cases hw
 | cons b l ih =>
  rintro ⟨w,hw,hne⟩
  by_cases hb:b=v
  ·subst hb
   rcases List.mem_cons.1 hw with rfl | hw
   ·exact absurd rfl hne
   ·obtain ⟨y,h1,h2⟩:=ih ⟨w,hw,hne⟩
    exact ⟨y,List.mem_cons_of_mem _ h1,h2⟩
  ·exact ⟨b,List.mem_cons_self ..,Ne.symm hb⟩
theorem distinct_mem {l:List Q2} (hF:¬ Flat l) {v:Q2}:v∈distinctR l↔v∈l:=by
 refine ⟨fun h=>(distinct_sub l).subset h,fun h=>?_⟩
 obtain ⟨w,hw,hne⟩:∃ w∈l,w≠v:=by
  refine Decidable.byContradiction fun hn=>hF ?_
  obtain ⟨f,hf,h1,_⟩:=line_through v v
  exact ⟨f,hf,fun x hx=>by
   have:x=v:=Decidable.byContradiction fun h=>hn ⟨x,hx,h⟩
   rw [this]; exact h1⟩
 obtain ⟨A,B,rfl⟩:=List.append_of_mem h
 obtain ⟨y,h1,h2⟩:=leave (v:=v) (B++A) ⟨w,by
  rcases List.mem_append.1 hw with h | h
  ·exact List.mem_append_right _ h
  ·rcases List.mem_cons.1 h with h | h
   ·exact absurd h hne
   ·exact List.mem_append_left _ h,hne⟩
 have he:(v,y)∈edges (A++v::B):=edges_rot (A:=v::B) (consec_more (m:=[v]) h1)
 unfold distinctR
 refine List.mem_flatMap.2 ⟨_,he,?_⟩
 unfold distF
 rw [if_pos (fun h=>h2 (cmpR_eq0.1 h))]
 exact List.mem_cons_self ..
theorem corner_xtr {D:List Q2} (hT:Turn D) (hF:¬ Flat D) (hne:∀ e∈edges D,e.1≠e.2) (v:Q2):v∈cornersR D↔Xtr D v:=by
 constructor
 ·intro h
  unfold cornersR at h
  obtain ⟨i,hi,hv⟩:=List.mem_flatMap.1 h
  have hi:=List.mem_range.1 hi
  unfold cornF at hv
  split at hv
  ·rename_i hc
   simp at hv
   rw [hv]
   exact ext_corner hT (edge_prv hi) (edge_at hi) hc
  ·cases hv
 ·intro h
  obtain ⟨i,hi,rfl⟩:=mem_at2 h.mem
  unfold cornersR
  refine List.mem_flatMap.2 ⟨i,List.mem_range.2 hi,?_⟩
  unfold cornF
  by_cases hc:orR (at2 D (prv D.length i)) (at2 D i) (at2 D (nxt D.length i))=0
  ·have n1:=hne _ (edge_prv hi)
   have n2:=hne _ (edge_at hi)
   obtain ⟨t,t0,t1,ht⟩:=between_nb hT hF (edge_prv hi) (edge_at hi) n1 n2 hc
   exact absurd ht (h.not_between (.of_mem (at2_mem (prv_lt hi))) (.of_mem (at2_mem (nxt_lt hi))) n1 (Ne.symm n2) t0 t1)
  ·rw [if_pos hc]; exact List.mem_cons_self ..
/-- The reference's ring. -/
theorem ring_eq {P:List Q2} (hT:Turn P) (hF:¬ Flat P):ringR P=rotR (cleanL P)∧3≤(cleanL P).length:=by
 have hr:=clean_ring hT hF
 have hTD:Turn (distinctR P):=hT.sublist (distinct_sub P)
 have hFD:¬ Flat (distinctR P):=fun h=>hF (h.mono fun v hv=>(distinct_mem hF).2 hv)
 have hs:SameH (distinctR P) P:=.of_mem fun v=>distinct_mem hF
 have hnd:=turn_nodup hTD hFD (distinct_ne P)
 have eC:∀ v,v∈cornersR (distinctR P)↔Xtr P v:=fun v=>(corner_xtr hTD hFD (distinct_ne P) v).trans (Xtr.iff hs v)
 have eR:∀ v,v∈cleanL P↔Xtr P v:=fun v=>hr.ext.trans (Xtr.iff (clean_same hT hF).1 v)
 have he:=least_unique (hTD.sublist (corners_sub _)) hr.turn (hnd.sublist (corners_sub _)) hr.nodup eC eR
 refine ⟨?_,hr.three⟩
 unfold ringR
 have hl:=congrArg List.length he
 rw [rotR_length,rotR_length] at hl
 rw [if_neg (by have:=hr.three; omega),he]
theorem ring_flat {P:List Q2} (hF:Flat P):ringR P=[]∧(cleanL P).length < 3:=by
 refine ⟨?_,by have:=clean_flat hF; omega⟩
 have hFD:Flat (distinctR P):=hF.mono fun v hv=>(distinct_sub P).subset hv
 have:cornersR (distinctR P)=[]:=by
  unfold cornersR
  rw [List.flatMap_eq_nil_iff]
  intro i hi
  have hi:=List.mem_range.1 hi
  unfold cornF
  rw [if_neg (by simp only [ne_eq]; exact fun h=>h (flat_or hFD (at2_mem (prv_lt hi)) (at2_mem hi) (at2_mem (nxt_lt hi))))]
 unfold ringR
 rw [this,if_pos (by decide)]
/-! a box, cut by lines -/
abbrev Q4:=Q2 × Q2
def boxR (b:Q4):List Q2:=[b.1,(b.2.1,b.1.2),b.2,(b.1.1,b.2.2)]
def okB (b:Q4):Prop:=b.1.1≤b.2.1∧b.1.2≤b.2.2
def inBx (b:Q4) (p:Q2):Prop:=b.1.1≤p.1∧p.1≤b.2.1∧b.1.2≤p.2∧p.2≤b.2.2
def partR (b:Q4) (l:List Q3):List Q2:=l.foldl (fun P m=>cutR m P) (boxR b)
theorem box_turn {b:Q4} (h:okB b):Turn (boxR b):=by
 obtain ⟨h1,h2⟩:=h
 have:=Rat.mul_nonneg (show 0≤b.2.1 - b.1.1 by grind) (show 0≤b.2.2 - b.1.2 by grind)
 refine ⟨?_,?_,?_,?_,trivial⟩ <;> unfold LeftP <;> simp [orR_eq] <;> grind
theorem box_hull {b:Q4} (h:okB b) (p:Q2):Hull (boxR b) p↔inBx b p:=by
 obtain ⟨h1,h2⟩:=h
 constructor
 ·intro hp
  have a:=hp (1,0,b.1.1) (fun v hv=>by simp [boxR] at hv; rcases hv with rfl | rfl | rfl | rfl <;> simp [valR_eq] <;> grind)
  have c:=hp (-1,0,-b.2.1) (fun v hv=>by simp [boxR] at hv; rcases hv with rfl | rfl | rfl | rfl <;> simp [valR_eq] <;> grind)
  have d:=hp (0,1,b.1.2) (fun v hv=>by simp [boxR] at hv; rcases hv with rfl | rfl | rfl | rfl <;> simp [valR_eq] <;> grind)
  have e:=hp (0,-1,-b.2.2) (fun v hv=>by simp [boxR] at hv; rcases hv with rfl | rfl | rfl | rfl <;> simp [valR_eq] <;> grind)
  simp only [valR_eq] at a c d e
  exact ⟨by grind,by grind,by grind,by grind⟩
 ·rintro ⟨a,c,d,e⟩ f hf
  have f1:=hf b.1 (by simp [boxR])
  have f2:=hf (b.2.1,b.1.2) (by simp [boxR])
  have f3:=hf b.2 (by simp [boxR])
  have f4:=hf (b.1.1,b.2.2) (by simp [boxR])
  rw [valR_eq] at f1 f2 f3 f4 ⊢
  simp only at f2 f4
  have X:0≤-f.1∨0≤f.1:=by grind
  have Y:0≤-f.2.1∨0≤f.2.1:=by grind
  rcases X with X | X <;> rcases Y with Y | Y
  ·have:=Rat.mul_nonneg X (show 0≤b.2.1 - p.1 by grind)
   have:=Rat.mul_nonneg Y (show 0≤b.2.2 - p.2 by grind)
   grind
  ·have:=Rat.mul_nonneg X (show 0≤b.2.1 - p.1 by grind)
   have:=Rat.mul_nonneg Y (show 0≤p.2 - b.1.2 by grind)
   grind
  ·have:=Rat.mul_nonneg X (show 0≤p.1 - b.1.1 by grind)
   have:=Rat.mul_nonneg Y (show 0≤b.2.2 - p.2 by grind)
   grind
  ·have:=Rat.mul_nonneg X (show 0≤p.1 - b.1.1 by grind)
   have:=Rat.mul_nonneg Y (show 0≤p.2 - b.1.2 by grind)
   grind
theorem cuts_spec:∀ (l:List Q3) (P:List Q2),Turn P→Turn (l.foldl (fun P m=>cutR m P) P)∧∀ p,Hull (l.foldl (fun P m=>cutR m P) P) p↔Hull P p∧∀ m∈l,0≤valR m p:=by
 intro l
 induction l with
 | nil=>intro P hT; exact ⟨hT,fun p=>by simp⟩
 | cons m l ih =>
  intro P hT
  obtain ⟨h1,h2⟩:=ih (cutR m P) (cut_turn hT)
  refine ⟨h1,fun p=>?_⟩
  show Hull (l.foldl _ (cutR m P)) p↔_
  rw [h2,hull_cut_iff hT]
  simp only [List.mem_cons,forall_eq_or_imp,and_assoc]
theorem part_spec {b:Q4} (h:okB b) (l:List Q3):Turn (partR b l)∧∀ p,Hull (partR b l) p↔inBx b p∧∀ m∈l,0≤valR m p:=by
 obtain ⟨h1,h2⟩:=cuts_spec l (boxR b) (box_turn h)
 exact ⟨h1,fun p=>by rw [show Hull (partR b l) p↔_ from h2 p,box_hull h]⟩
end Go.Ae
/- Convex polygons: each vertex is where two of the given lines meet. -/
namespace Go.Ae
open Go
/-- Both ends on one of the lines. -/
def onS (S:Q3→Prop) (e:Q2 × Q2):Prop:=∃ m,S m∧isL m∧valR m e.1=0∧valR m e.2=0
theorem met_of {l m:Q3} {x:Q2} (hx:valR l x=0) (hy:valR m x=0) (h:detR l m≠0):x=metR l m:=by
 unfold detR at h
 have e:detR l m=crossR (nrm l) (nrm m):=rfl
 rw [show crossR (nrm l) (nrm m)=l.1*m.2.1 - l.2.1*m.1 from rfl] at h e
 rw [valR_eq] at hx hy
 unfold metR
 rw [e]
 refine Prod.ext ?_ ?_
 ·show x.1=_
  rw [Rat.div_def]; grind
 ·show x.2=_
  rw [Rat.div_def]; grind
theorem det_ne {l m:Q3} {a b:Q2} (hl:isL l) (ha:valR l a=0) (hb:valR l b=0) (h:valR m a≠valR m b):detR l m≠0:=fun e=>by
 rw [show detR l m=l.1*m.2.1 - l.2.1*m.1 from rfl] at e
 rw [valR_eq] at ha hb
 rw [valR_eq,valR_eq] at h
 by_cases h0:l.1=0
 ·have h1:l.2.1≠0:=fun e=>hl ⟨h0,e⟩
  have:l.2.1*(m.1*a.1+m.2.1*a.2 - m.2.2 - (m.1*b.1+m.2.1*b.2 - m.2.2))=0:=by grind
  have:=(Rat.mul_eq_zero.1 this).resolve_left h1
  exact h (by grind)
 ·have:l.1*(m.1*a.1+m.2.1*a.2 - m.2.2 - (m.1*b.1+m.2.1*b.2 - m.2.2))=0:=by grind
  have:=(Rat.mul_eq_zero.1 this).resolve_left h0
  exact h (by grind)
def cutF (m:Q3) (e:Q2 × Q2):List Q2:=keepP m e.1++crossP m e.1 e.2
theorem cutF_eq (m:Q3) (l:List Q2):cutR m l=(edges l).flatMap (cutF m):=rfl
theorem keep_pos {m:Q3} {a:Q2} (h:0≤valR m a):keepP m a=[a]:=by unfold keepP; rw [if_pos (cmpQ_ge.2 h)]
theorem keep_neg {m:Q3} {a:Q2} (h:valR m a < 0):keepP m a=[]:=by unfold keepP; rw [if_neg (fun h2=>by have:=cmpQ_ge.1 h2; grind)]
theorem cross_no {m:Q3} {a b:Q2} (h:¬ ((0 < valR m a∧valR m b < 0)∨(valR m a < 0∧0 < valR m b))):crossP m a b=[]:=by unfold crossP; rw [if_neg (fun h2=>h (cross_iff.1 h2))]
theorem consec_join {S:Q2 × Q2→Prop} {a:Q2} {X:List Q2} (h:∀ x,X.head?=some x→S (a,x)) (hX:∀ e∈consec X,S e):∀ e∈consec (a::X),S e:=by
 cases X with
 | nil=>intro e he; cases he
 | cons x X =>
  intro e he
  rw [consec_cons] at he
  rcases List.mem_cons.1 he with rfl | he
  ·exact h x rfl
  ·exact hX e he
/-- What is left after a cut: each edge lies on one of the lines. -/
theorem cut_path {S:Q3→Prop} {m:Q3} (hS:S m) (hm:isL m) (z:Q2):∀ (L:List Q2) (a:Q2),(a::L).getLast?=some z→(∀ e∈consec (a::L),onS S e) →
  ∃ X,(consec (a::L)).flatMap (cutF m)++keepP m z=X∧(∀ e∈consec X,onS S e)∧(0≤valR m a→X.head?=some a)∧(valR m a < 0→∀ x,X.head?=some x→valR m x=0)∧(valR m z < 0→∀ x,X.getLast?=some x→valR m x=0):=by
 intro L
 induction L with
 | nil =>
  intro a hz hS'
  simp at hz
  subst hz
  by_cases ha:0≤valR m a
  ·refine ⟨[a],by rw [keep_pos ha]; rfl,(fun e he=>by cases he),fun _=>rfl,fun h=>absurd ha (by grind),fun h=>absurd ha (by grind)⟩
  ·exact ⟨[],by rw [keep_neg (by grind)]; rfl,(fun e he=>by cases he),fun h=>absurd h ha,(fun h x hx=>by cases hx),(fun h x hx=>by cases hx)⟩
 | cons b L ih =>
  intro a hz hS'
  rw [consec_cons] at hS'
  obtain ⟨X,hX,h1,h2,h3,h4⟩:=ih b (by rw [List.getLast?_cons_cons] at hz; exact hz) fun e he=>hS' e (List.mem_cons_of_mem _ he)
  obtain ⟨k,hk,hkL,ka,kb⟩:=hS' (a,b) (List.mem_cons_self ..)
  rw [consec_cons,List.flatMap_cons,List.append_assoc,hX]
  show ∃ Y,(keepP m a++crossP m a b)++X=Y∧_
  have last:∀ Z:List Q2,X≠[]→∀ x,(Z++X).getLast?=some x→X.getLast?=some x:=fun Z hne x hx=>by
   rw [List.getLast?_append] at hx
   cases e:X.getLast? with
   | none=>exact absurd (List.getLast?_eq_none_iff.1 e) hne
   | some y=>rw [e] at hx; exact hx
  by_cases ha:0≤valR m a
  ·rw [keep_pos ha]
   by_cases hb:0≤valR m b
   ·rw [cross_no (by grind),List.append_nil]
    have hh:=h2 hb
    refine ⟨a::X,rfl,consec_join (fun x hx=>?_) h1,fun _=>rfl,fun h=>absurd ha (by grind),fun h x hx=>h4 h x (last [a] (fun e=>by rw [e] at hh; cases hh) x hx)⟩
    rw [hh] at hx; cases hx
    exact ⟨k,hk,hkL,ka,kb⟩
   ·by_cases h0:valR m a=0
    ·rw [cross_no (by grind),List.append_nil]
     refine ⟨a::X,rfl,consec_join (fun x hx=>⟨m,hS,hm,h0,h3 (by grind) x hx⟩) h1,fun _=>rfl,fun h=>absurd ha (by grind),fun h x hx=>?_⟩
     by_cases hX0:X=[]
     ·subst hX0; simp at hx; rw [← hx]; exact h0
     ·exact h4 h x (last [a] hX0 x hx)
    ·have hc:=crossP_mk (m:=m) (p:=a) (q:=b) (.inl ⟨by grind,by grind⟩)
     have hs:=crossP_spec (x:=atR a b (crossT m a b)) (by rw [hc]; simp)
     rw [hc]
     refine ⟨a::atR a b (crossT m a b)::X,rfl,consec_join (fun x hx=>?_) (consec_join (fun x hx=>⟨m,hS,hm,hs.2.2.2.2,h3 (by grind) x hx⟩) h1),fun _=>rfl,fun h=>absurd ha (by grind),fun h x hx=>?_⟩
     ·simp at hx
      rw [← hx]
      exact ⟨k,hk,hkL,ka,atR_flat ka kb⟩
     ·by_cases hX0:X=[]
      ·subst hX0; simp at hx; rw [← hx]; exact hs.2.2.2.2
      ·exact h4 h x (last [a,atR a b (crossT m a b)] hX0 x hx)
  ·rw [keep_neg (by grind),List.nil_append]
   by_cases hb:0 < valR m b
   ·have hc:=crossP_mk (m:=m) (p:=a) (q:=b) (.inr ⟨by grind,by grind⟩)
    have hs:=crossP_spec (x:=atR a b (crossT m a b)) (by rw [hc]; simp)
    have hh:=h2 (by grind)
    rw [hc]
    refine ⟨atR a b (crossT m a b)::X,rfl,consec_join (fun x hx=>?_) h1,fun h=>absurd h ha,fun _ x hx=>?_,fun h x hx=>h4 h x (last [atR a b (crossT m a b)] (fun e=>by rw [e] at hh; cases hh) x hx)⟩
    ·rw [hh] at hx; cases hx
     exact ⟨k,hk,hkL,atR_flat ka kb,kb⟩
    ·simp at hx; rw [← hx]; exact hs.2.2.2.2
   ·rw [cross_no (by grind),List.nil_append]
    refine ⟨X,rfl,h1,fun h=>absurd h ha,fun _ x hx=>?_,h4⟩
    by_cases hb0:valR m b=0
    ·have:=h2 (by grind)
     rw [this] at hx; cases hx; exact hb0
    ·exact h3 (by grind) x hx
theorem cut_on {S:Q3→Prop} {m:Q3} {P:List Q2} (hS:S m) (hm:isL m) (h:∀ e∈edges P,onS S e):∀ e∈edges (cutR m P),onS S e:=by
 cases P with
 | nil=>intro e he; cases he
 | cons p P =>
  obtain ⟨X,hX,h1,h2,h3,h4⟩:=cut_path hS hm p (P++[p]) p (by rw [← List.cons_append,List.getLast?_append]; rfl) h
  have hc:cutR m (p::P)=(consec (p::(P++[p]))).flatMap (cutF m):=rfl
  rw [← hc] at hX
  by_cases hp:0≤valR m p
  ·rw [keep_pos hp] at hX
   have hh:=h2 hp
   intro e he
   cases hC:cutR m (p::P) with
   | nil=>rw [hC] at he; cases he
   | cons c C =>
    rw [hC] at hX he
    have:c=p:=by rw [← hX] at hh; simpa using hh
    rw [this] at hX he
    rw [edges_cons,hX] at he
    exact h1 e he
  ·rw [keep_neg (by grind),List.append_nil] at hX
   intro e he
   cases hC:cutR m (p::P) with
   | nil=>rw [hC] at he; cases he
   | cons c C =>
    rw [hC] at he hX
    subst hX
    rcases List.eq_nil_or_concat C with rfl | ⟨C,d,rfl⟩
    ·have hc0:=h3 (by grind) c rfl
     rw [edges_cons] at he
     rcases List.mem_cons.1 he with rfl | he
     ·exact ⟨m,hS,hm,hc0,hc0⟩
     ·cases he
    ·have hc0:=h3 (by grind) c rfl
     have hd0:=h4 (by grind) d (by rw [List.concat_eq_append,← List.cons_append,List.getLast?_append]; rfl)
     rw [List.concat_eq_append] at he h1
     rw [edges_cons,show c::(C++[d])++[c]=(c::C)++d::[c] by simp,consec_app] at he
     rcases List.mem_append.1 he with he | he
     ·exact h1 e (by rw [← List.cons_append]; exact he)
     ·rcases List.mem_cons.1 he with rfl | he
      ·exact ⟨m,hS,hm,hd0,hc0⟩
      ·cases he
def smallL (m:Q3):Prop:=Q3.sz 20 m
/-- Small vertices, and small lines for the edges. -/
def Small (P:List Q2):Prop:=(∀ v∈P,Q2.sz 200 v)∧∀ e∈edges P,onS smallL e
theorem small_cut {m:Q3} {P:List Q2} (hm:isL m) (hs:smallL m) (h:Small P):Small (cutR m P):=by
 refine ⟨fun v hv=>?_,cut_on hs hm h.2⟩
 rcases mem_cut hv with ⟨h1,_⟩ | ⟨e,he,hx⟩
 ·exact h.1 v h1
 ·obtain ⟨k,hk,hkL,ka,kb⟩:=h.2 e he
  have hx:=crossP_spec hx
  have hd:detR k m≠0:=det_ne hkL ka kb (by grind)
  have hv0:valR k v=0:=by rw [hx.2.1]; exact atR_flat ka kb
  rw [met_of hv0 hx.2.2.2.2 hd]
  exact Q2.mono (met_sz hk hs) (by decide)
theorem qb0 {k:Nat} (h:1≤k):QB 0 k:=(ex_nby (n:=0) (by decide)).mono h
theorem qb1 {k:Nat} (h:1≤k):QB 1 k:=(ex_nby (n:=1) (by decide)).mono h
theorem box_small {b:Q4} (h1:Q2.sz 20 b.1) (h2:Q2.sz 20 b.2):Small (boxR b):=by
 refine ⟨fun v hv=>?_,fun e he=>?_⟩
 ·simp [boxR] at hv
  rcases hv with rfl | rfl | rfl | rfl
  ·exact Q2.mono h1 (by decide)
  ·exact ⟨h2.1.mono (by decide),h1.2.mono (by decide)⟩
  ·exact Q2.mono h2 (by decide)
  ·exact ⟨h1.1.mono (by decide),h2.2.mono (by decide)⟩
 ·have q0:=qb0 (k:=20) (by decide)
  have q1:=qb1 (k:=20) (by decide)
  simp [boxR,edges,consec] at he
  rcases he with rfl | rfl | rfl | rfl
  ·exact ⟨(0,1,b.1.2),⟨q0,q1,h1.2⟩,fun h=>absurd (show (1:Rat)=0 from h.2) (by decide),by simp only [valR_eq]; grind,by simp only [valR_eq]; grind⟩
  ·exact ⟨(1,0,b.2.1),⟨q1,q0,h2.1⟩,fun h=>absurd (show (1:Rat)=0 from h.1) (by decide),by simp only [valR_eq]; grind,by simp only [valR_eq]; grind⟩
  ·exact ⟨(0,1,b.2.2),⟨q0,q1,h2.2⟩,fun h=>absurd (show (1:Rat)=0 from h.2) (by decide),by simp only [valR_eq]; grind,by simp only [valR_eq]; grind⟩
  ·exact ⟨(1,0,b.1.1),⟨q1,q0,h1.1⟩,fun h=>absurd (show (1:Rat)=0 from h.1) (by decide),by simp only [valR_eq]; grind,by simp only [valR_eq]; grind⟩
end Go.Ae
