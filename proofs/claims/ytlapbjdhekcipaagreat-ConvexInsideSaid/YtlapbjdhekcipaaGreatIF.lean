import Derived.Test.YtlapbjdhekcipaaGreatProg
import Derived.Shelf.Abstract
import Derived.Test.YtlapbjdhekcipaaGreatIE
set_option linter.unusedVariables false
set_option linter.unusedSimpArgs false
namespace Go.Proofs.YtlapbjdhekcipaaGreat
open Go Go.Ae
def tt:TT:=fun t=>match t with
 | 1=>some ⟨1,8,.other,[.nilFunc]⟩
 | 2=>some ⟨1,8,.int .i64,[.int .i64 0]⟩
 | 3=>some ⟨1,8,.int .i64,[.int .i64 0]⟩
 | 4=>some ⟨1,1,.bool,[.bool false]⟩
 | 5=>some ⟨1,1,.int .u8,[.int .u8 0]⟩
 | 6=>some ⟨1,1,.int .u8,[.int .u8 0]⟩
 | 7=>some ⟨4,24,.struct [(0,1,false),(1,1,false),(2,1,false),(3,1,false)],[.int .i64 0,.int .i64 0,.bool false,.int .u8 0]⟩
 | 8=>some ⟨4,24,.struct [(0,1,false),(1,1,false),(2,1,false),(3,1,false)],[.int .i64 0,.int .i64 0,.bool false,.int .u8 0]⟩
 | 9=>some ⟨1,16,.str,[.string ⟨#[]⟩]⟩
 | 10=>some ⟨1,16,.str,[.string ⟨#[]⟩]⟩
 | 11=>some ⟨1,16,.str,[.string ⟨#[]⟩]⟩
 | 12=>some ⟨1,8,.int .u64,[.int .u64 0]⟩
 | 13=>some ⟨2,24,.struct [(0,1,false),(1,1,false)],[.string ⟨#[]⟩,.int .u64 0]⟩
 | 14=>some ⟨2,24,.struct [(0,1,false),(1,1,false)],[.string ⟨#[]⟩,.int .u64 0]⟩
 | 18=>some ⟨1,8,.struct [(0,1,false)],[.pointer none]⟩
 | 19=>some ⟨1,8,.struct [(0,1,false)],[.pointer none]⟩
 | 21=>some ⟨1,4,.int .i32,[.int .i32 0]⟩
 | 22=>some ⟨1,24,.slice 26,[.slice none 0 0]⟩
 | 23=>some ⟨3,40,.struct [(0,1,false),(1,1,false),(2,1,false)],[.bool false,.string ⟨#[]⟩,.string ⟨#[]⟩]⟩
 | 24=>some ⟨3,40,.struct [(0,1,false),(1,1,false),(2,1,false)],[.bool false,.string ⟨#[]⟩,.string ⟨#[]⟩]⟩
 | 25=>some ⟨6,80,.struct [(0,3,true),(3,3,true)],[.bool false,.string ⟨#[]⟩,.string ⟨#[]⟩,.bool false,.string ⟨#[]⟩,.string ⟨#[]⟩]⟩
 | 26=>some ⟨6,80,.struct [(0,3,true),(3,3,true)],[.bool false,.string ⟨#[]⟩,.string ⟨#[]⟩,.bool false,.string ⟨#[]⟩,.string ⟨#[]⟩]⟩
 | 27=>some ⟨1,8,.other,[.nilFunc]⟩
 | 28=>some ⟨1,8,.other,[.nilFunc]⟩
 | 29=>some ⟨1,8,.int .i64,[.int .i64 0]⟩
 | 31=>some ⟨1,8,.other,[.nilFunc]⟩
 | 32=>some ⟨1,8,.other,[.nilFunc]⟩
 | 33=>some ⟨1,8,.other,[.nilFunc]⟩
 | 34=>some ⟨1,8,.other,[.nilFunc]⟩
 | 36=>some ⟨1,8,.other,[.nilFunc]⟩
 | 38=>some ⟨1,8,.other,[.nilFunc]⟩
 | 39=>some ⟨12,160,.struct [(0,6,true),(6,6,true)],[.bool false,.string ⟨#[]⟩,.string ⟨#[]⟩,.bool false,.string ⟨#[]⟩,.string ⟨#[]⟩,.bool false,.string ⟨#[]⟩,.string ⟨#[]⟩,.bool false,.string ⟨#[]⟩,.string ⟨#[]⟩]⟩
 | 40=>some ⟨12,160,.struct [(0,6,true),(6,6,true)],[.bool false,.string ⟨#[]⟩,.string ⟨#[]⟩,.bool false,.string ⟨#[]⟩,.string ⟨#[]⟩,.bool false,.string ⟨#[]⟩,.string ⟨#[]⟩,.bool false,.string ⟨#[]⟩,.string ⟨#[]⟩]⟩
 | 41=>some ⟨1,8,.other,[.nilFunc]⟩
 | 42=>some ⟨1,8,.other,[.nilFunc]⟩
 | 43=>some ⟨1,8,.other,[.nilFunc]⟩
 | 44=>some ⟨1,8,.other,[.nilFunc]⟩
 | 45=>some ⟨1,8,.other,[.nilFunc]⟩
 | 47=>some ⟨1,8,.other,[.nilFunc]⟩
 | 48=>some ⟨1,8,.other,[.nilFunc]⟩
 | 49=>some ⟨1,8,.other,[.nilFunc]⟩
 | 50=>some ⟨1,8,.other,[.nilFunc]⟩
 | 51=>some ⟨1,8,.other,[.nilFunc]⟩
 | 52=>some ⟨1,8,.other,[.nilFunc]⟩
 | 53=>some ⟨1,8,.other,[.nilFunc]⟩
 | 54=>some ⟨1,8,.other,[.nilFunc]⟩
 | 55=>some ⟨1,24,.slice 24,[.slice none 0 0]⟩
 | 56=>some ⟨1,8,.other,[.nilFunc]⟩
 | 57=>some ⟨1,8,.other,[.nilFunc]⟩
 | 59=>some ⟨1,8,.other,[.nilFunc]⟩
 | 61=>some ⟨1,8,.other,[.nilFunc]⟩
 | 62=>some ⟨1,8,.other,[.nilFunc]⟩
 | 63=>some ⟨1,8,.other,[.nilFunc]⟩
 | 64=>some ⟨1,8,.other,[.nilFunc]⟩
 | 65=>some ⟨1,8,.other,[.nilFunc]⟩
 | 67=>some ⟨1,8,.other,[.nilFunc]⟩
 | 68=>some ⟨1,24,.slice 22,[.slice none 0 0]⟩
 | 69=>some ⟨1,8,.other,[.nilFunc]⟩
 | 70=>some ⟨1,8,.other,[.nilFunc]⟩
 | 71=>some ⟨1,8,.other,[.nilFunc]⟩
 | 72=>some ⟨1,8,.other,[.nilFunc]⟩
 | 73=>some ⟨1,8,.other,[.nilFunc]⟩
 | 74=>some ⟨1,8,.other,[.nilFunc]⟩
 | 75=>some ⟨1,8,.other,[.nilFunc]⟩
 | 76=>some ⟨1,8,.other,[.nilFunc]⟩
 | 77=>some ⟨1,8,.other,[.nilFunc]⟩
 | 78=>some ⟨1,8,.other,[.nilFunc]⟩
 | 79=>some ⟨1,8,.other,[.nilFunc]⟩
 | 80=>some ⟨1,8,.other,[.nilFunc]⟩
 | 81=>some ⟨1,8,.other,[.nilFunc]⟩
 | 82=>some ⟨1,8,.other,[.nilFunc]⟩
 | 83=>some ⟨1,8,.other,[.nilFunc]⟩
 | 84=>some ⟨1,8,.other,[.nilFunc]⟩
 | 85=>some ⟨1,8,.other,[.nilFunc]⟩
 | 86=>some ⟨1,8,.other,[.nilFunc]⟩
 | 88=>some ⟨1,8,.other,[.nilFunc]⟩
 | 89=>some ⟨1,8,.other,[.nilFunc]⟩
 | 90=>some ⟨1,8,.other,[.nilFunc]⟩
 | 91=>some ⟨1,8,.other,[.nilFunc]⟩
 | 92=>some ⟨2,24,.struct [(0,1,false),(1,1,false)],[.bool false,.string ⟨#[]⟩]⟩
 | 93=>some ⟨2,24,.struct [(0,1,false),(1,1,false)],[.bool false,.string ⟨#[]⟩]⟩
 | 94=>some ⟨1,8,.other,[.nilFunc]⟩
 | 95=>some ⟨1,8,.other,[.nilFunc]⟩
 | 96=>some ⟨4,48,.struct [(0,2,true),(2,2,true)],[.bool false,.string ⟨#[]⟩,.bool false,.string ⟨#[]⟩]⟩
 | 97=>some ⟨4,48,.struct [(0,2,true),(2,2,true)],[.bool false,.string ⟨#[]⟩,.bool false,.string ⟨#[]⟩]⟩
 | 98=>some ⟨1,8,.other,[.nilFunc]⟩
 | 99=>some ⟨1,8,.other,[.nilFunc]⟩
 | 100=>some ⟨1,8,.other,[.nilFunc]⟩
 | 101=>some ⟨1,8,.other,[.nilFunc]⟩
 | 102=>some ⟨1,8,.other,[.nilFunc]⟩
 | 103=>some ⟨1,8,.other,[.nilFunc]⟩
 | 104=>some ⟨1,8,.other,[.nilFunc]⟩
 | 105=>some ⟨1,8,.other,[.nilFunc]⟩
 | 106=>some ⟨1,8,.other,[.nilFunc]⟩
 | 107=>some ⟨1,8,.other,[.nilFunc]⟩
 | 108=>some ⟨1,8,.other,[.nilFunc]⟩
 | 110=>some ⟨1,8,.other,[.nilFunc]⟩
 | 111=>some ⟨1,8,.other,[.nilFunc]⟩
 | 112=>some ⟨1,8,.other,[.nilFunc]⟩
 | 113=>some ⟨1,8,.other,[.nilFunc]⟩
 | 114=>some ⟨1,8,.other,[.nilFunc]⟩
 | 115=>some ⟨1,24,.slice 3,[.slice none 0 0]⟩
 | 116=>some ⟨1,8,.other,[.nilFunc]⟩
 | 117=>some ⟨1,8,.other,[.nilFunc]⟩
 | 118=>some ⟨1,8,.other,[.nilFunc]⟩
 | 119=>some ⟨1,8,.other,[.nilFunc]⟩
 | 120=>some ⟨9,120,.struct [(0,3,true),(3,3,true),(6,3,true)],[.bool false,.string ⟨#[]⟩,.string ⟨#[]⟩,.bool false,.string ⟨#[]⟩,.string ⟨#[]⟩,.bool false,.string ⟨#[]⟩,.string ⟨#[]⟩]⟩
 | 121=>some ⟨9,120,.struct [(0,3,true),(3,3,true),(6,3,true)],[.bool false,.string ⟨#[]⟩,.string ⟨#[]⟩,.bool false,.string ⟨#[]⟩,.string ⟨#[]⟩,.bool false,.string ⟨#[]⟩,.string ⟨#[]⟩]⟩
 | 123=>some ⟨1,8,.other,[.nilFunc]⟩
 | 124=>some ⟨1,8,.other,[.nilFunc]⟩
 | 125=>some ⟨1,8,.other,[.nilFunc]⟩
 | 126=>some ⟨1,8,.other,[.nilFunc]⟩
 | 127=>some ⟨1,8,.other,[.nilFunc]⟩
 | 128=>some ⟨1,8,.other,[.nilFunc]⟩
 | 129=>some ⟨1,8,.int .u64,[.int .u64 0]⟩
 | 130=>some ⟨1,8,.other,[.nilFunc]⟩
 | 131=>some ⟨1,4,.int .u32,[.int .u32 0]⟩
 | 132=>some ⟨1,8,.int .u64,[.int .u64 0]⟩
 | 133=>some ⟨1,24,.slice 131,[.slice none 0 0]⟩
 | 134=>some ⟨1,24,.slice 131,[.slice none 0 0]⟩
 | 135=>some ⟨1,8,.other,[.nilFunc]⟩
 | 137=>some ⟨1,8,.other,[.nilFunc]⟩
 | 138=>some ⟨1,8,.other,[.nilFunc]⟩
 | 139=>some ⟨1,8,.other,[.nilFunc]⟩
 | 140=>some ⟨1,8,.other,[.nilFunc]⟩
 | 142=>some ⟨1,8,.other,[.nilFunc]⟩
 | 143=>some ⟨1,8,.other,[.nilFunc]⟩
 | 144=>some ⟨1,8,.other,[.nilFunc]⟩
 | 146=>some ⟨1,8,.other,[.nilFunc]⟩
 | 147=>some ⟨1,8,.other,[.nilFunc]⟩
 | 148=>some ⟨1,8,.other,[.nilFunc]⟩
 | 149=>some ⟨1,8,.other,[.nilFunc]⟩
 | 150=>some ⟨1,8,.other,[.nilFunc]⟩
 | 152=>some ⟨1,8,.other,[.nilFunc]⟩
 | 153=>some ⟨1,8,.other,[.nilFunc]⟩
 | 154=>some ⟨1,8,.other,[.nilFunc]⟩
 | 156=>some ⟨1,8,.other,[.nilFunc]⟩
 | 157=>some ⟨1,8,.other,[.nilFunc]⟩
 | 158=>some ⟨1,8,.other,[.nilFunc]⟩
 | 159=>some ⟨8,8,.array 8 5,[.int .u8 0,.int .u8 0,.int .u8 0,.int .u8 0,.int .u8 0,.int .u8 0,.int .u8 0,.int .u8 0]⟩
 | 160=>some ⟨1,24,.slice 5,[.slice none 0 0]⟩
 | 162=>some ⟨1,8,.other,[.nilFunc]⟩
 | 163=>some ⟨1,8,.other,[.nilFunc]⟩
 | 164=>some ⟨1,8,.other,[.nilFunc]⟩
 | 165=>some ⟨1,8,.other,[.nilFunc]⟩
 | 167=>some ⟨1,8,.other,[.nilFunc]⟩
 | 168=>some ⟨1,8,.other,[.nilFunc]⟩
 | 169=>some ⟨1,8,.other,[.nilFunc]⟩
 | 170=>some ⟨1,8,.other,[.nilFunc]⟩
 | 172=>some ⟨1,8,.other,[.nilFunc]⟩
 | 173=>some ⟨8,128,.array 8 9,[.string ⟨#[]⟩,.string ⟨#[]⟩,.string ⟨#[]⟩,.string ⟨#[]⟩,.string ⟨#[]⟩,.string ⟨#[]⟩,.string ⟨#[]⟩,.string ⟨#[]⟩]⟩
 | 177=>some ⟨4,40,.struct [(0,1,false),(1,1,false),(2,1,false),(3,1,false)],[.pointer none,.pointer none,.pointer none,.string ⟨#[]⟩]⟩
 | 178=>some ⟨4,40,.struct [(0,1,false),(1,1,false),(2,1,false),(3,1,false)],[.pointer none,.pointer none,.pointer none,.string ⟨#[]⟩]⟩
 | 182=>some ⟨1,8,.other,[.nilFunc]⟩
 | 183=>some ⟨1,1,.int .u8,[.int .u8 0]⟩
 | 184=>some ⟨1,1,.int .u8,[.int .u8 0]⟩
 | 185=>some ⟨1,8,.other,[.nilFunc]⟩
 | 187=>some ⟨1,4,.int .i32,[.int .i32 0]⟩
 | 188=>some ⟨1,4,.int .i32,[.int .i32 0]⟩
 | 189=>some ⟨11,48,.struct [(0,1,false),(1,1,false),(2,1,false),(3,1,false),(4,1,false),(5,1,false),(6,1,false),(7,1,false),(8,1,false),(9,1,false),(10,1,false)],[.int .u64 0,.int .u64 0,.int .u32 0,.int .u8 0,.int .u8 0,.int .u8 0,.int .u8 0,.nilFunc,.pointer none,.int .i32 0,.int .i32 0]⟩
 | 190=>some ⟨11,48,.struct [(0,1,false),(1,1,false),(2,1,false),(3,1,false),(4,1,false),(5,1,false),(6,1,false),(7,1,false),(8,1,false),(9,1,false),(10,1,false)],[.int .u64 0,.int .u64 0,.int .u32 0,.int .u8 0,.int .u8 0,.int .u8 0,.int .u8 0,.nilFunc,.pointer none,.int .i32 0,.int .i32 0]⟩
 | 191=>some ⟨1,16,.struct [(0,1,false)],[.string ⟨#[]⟩]⟩
 | 192=>some ⟨1,16,.struct [(0,1,false)],[.string ⟨#[]⟩]⟩
 | _=>none
theorem abF:aA Tryz.prog 1 ⟨1,8,.other,[.nilFunc]⟩:=aF (by kernel_rfl) (by kernel_rfl) (by kernel_rfl)
theorem abG:aA Tryz.prog 2 ⟨1,8,.int .i64,[.int .i64 0]⟩:=aF (by kernel_rfl) (by kernel_rfl) (by kernel_rfl)
theorem abH:aA Tryz.prog 3 ⟨1,8,.int .i64,[.int .i64 0]⟩:=aF (by kernel_rfl) (by kernel_rfl) (by kernel_rfl)
theorem abI:aA Tryz.prog 4 ⟨1,1,.bool,[.bool false]⟩:=aF (by kernel_rfl) (by kernel_rfl) (by kernel_rfl)
theorem abJ:aA Tryz.prog 5 ⟨1,1,.int .u8,[.int .u8 0]⟩:=aF (by kernel_rfl) (by kernel_rfl) (by kernel_rfl)
theorem abK:aA Tryz.prog 6 ⟨1,1,.int .u8,[.int .u8 0]⟩:=aF (by kernel_rfl) (by kernel_rfl) (by kernel_rfl)
theorem abL:aA Tryz.prog 7 ⟨4,24,.struct [(0,1,false),(1,1,false),(2,1,false),(3,1,false)],[.int .i64 0,.int .i64 0,.bool false,.int .u8 0]⟩:=aF (by kernel_rfl) (by kernel_rfl) (by kernel_rfl)
theorem abM:aA Tryz.prog 8 ⟨4,24,.struct [(0,1,false),(1,1,false),(2,1,false),(3,1,false)],[.int .i64 0,.int .i64 0,.bool false,.int .u8 0]⟩:=aF (by kernel_rfl) (by kernel_rfl) (by kernel_rfl)
theorem abN:aA Tryz.prog 9 ⟨1,16,.str,[.string ⟨#[]⟩]⟩:=aF (by kernel_rfl) (by kernel_rfl) (by kernel_rfl)
theorem Zt:aA Tryz.prog 10 ⟨1,16,.str,[.string ⟨#[]⟩]⟩:=aF (by kernel_rfl) (by kernel_rfl) (by kernel_rfl)
theorem Zu:aA Tryz.prog 11 ⟨1,16,.str,[.string ⟨#[]⟩]⟩:=aF (by kernel_rfl) (by kernel_rfl) (by kernel_rfl)
theorem Zv:aA Tryz.prog 12 ⟨1,8,.int .u64,[.int .u64 0]⟩:=aF (by kernel_rfl) (by kernel_rfl) (by kernel_rfl)
theorem Zw:aA Tryz.prog 13 ⟨2,24,.struct [(0,1,false),(1,1,false)],[.string ⟨#[]⟩,.int .u64 0]⟩:=aF (by kernel_rfl) (by kernel_rfl) (by kernel_rfl)
theorem Zx:aA Tryz.prog 14 ⟨2,24,.struct [(0,1,false),(1,1,false)],[.string ⟨#[]⟩,.int .u64 0]⟩:=aF (by kernel_rfl) (by kernel_rfl) (by kernel_rfl)
theorem Zy:aA Tryz.prog 18 ⟨1,8,.struct [(0,1,false)],[.pointer none]⟩:=aF (by kernel_rfl) (by kernel_rfl) (by kernel_rfl)
theorem Zz:aA Tryz.prog 19 ⟨1,8,.struct [(0,1,false)],[.pointer none]⟩:=aF (by kernel_rfl) (by kernel_rfl) (by kernel_rfl)
theorem ZA:aA Tryz.prog 21 ⟨1,4,.int .i32,[.int .i32 0]⟩:=aF (by kernel_rfl) (by kernel_rfl) (by kernel_rfl)
theorem ZB:aA Tryz.prog 22 ⟨1,24,.slice 26,[.slice none 0 0]⟩:=aF (by kernel_rfl) (by kernel_rfl) (by kernel_rfl)
theorem ZC:aA Tryz.prog 23 ⟨3,40,.struct [(0,1,false),(1,1,false),(2,1,false)],[.bool false,.string ⟨#[]⟩,.string ⟨#[]⟩]⟩:=aF (by kernel_rfl) (by kernel_rfl) (by kernel_rfl)
theorem ZD:aA Tryz.prog 24 ⟨3,40,.struct [(0,1,false),(1,1,false),(2,1,false)],[.bool false,.string ⟨#[]⟩,.string ⟨#[]⟩]⟩:=aF (by kernel_rfl) (by kernel_rfl) (by kernel_rfl)
theorem ZF:aA Tryz.prog 25 ⟨6,80,.struct [(0,3,true),(3,3,true)],[.bool false,.string ⟨#[]⟩,.string ⟨#[]⟩,.bool false,.string ⟨#[]⟩,.string ⟨#[]⟩]⟩:=aF (by kernel_rfl) (by kernel_rfl) (by kernel_rfl)
theorem ZG:aA Tryz.prog 26 ⟨6,80,.struct [(0,3,true),(3,3,true)],[.bool false,.string ⟨#[]⟩,.string ⟨#[]⟩,.bool false,.string ⟨#[]⟩,.string ⟨#[]⟩]⟩:=aF (by kernel_rfl) (by kernel_rfl) (by kernel_rfl)
theorem ZH:aA Tryz.prog 27 ⟨1,8,.other,[.nilFunc]⟩:=aF (by kernel_rfl) (by kernel_rfl) (by kernel_rfl)
theorem ZI:aA Tryz.prog 28 ⟨1,8,.other,[.nilFunc]⟩:=aF (by kernel_rfl) (by kernel_rfl) (by kernel_rfl)
theorem ZJ:aA Tryz.prog 29 ⟨1,8,.int .i64,[.int .i64 0]⟩:=aF (by kernel_rfl) (by kernel_rfl) (by kernel_rfl)
theorem ZK:aA Tryz.prog 31 ⟨1,8,.other,[.nilFunc]⟩:=aF (by kernel_rfl) (by kernel_rfl) (by kernel_rfl)
theorem ZL:aA Tryz.prog 32 ⟨1,8,.other,[.nilFunc]⟩:=aF (by kernel_rfl) (by kernel_rfl) (by kernel_rfl)
theorem ZM:aA Tryz.prog 33 ⟨1,8,.other,[.nilFunc]⟩:=aF (by kernel_rfl) (by kernel_rfl) (by kernel_rfl)
theorem ZN:aA Tryz.prog 34 ⟨1,8,.other,[.nilFunc]⟩:=aF (by kernel_rfl) (by kernel_rfl) (by kernel_rfl)
theorem ZO:aA Tryz.prog 36 ⟨1,8,.other,[.nilFunc]⟩:=aF (by kernel_rfl) (by kernel_rfl) (by kernel_rfl)
theorem ZP:aA Tryz.prog 38 ⟨1,8,.other,[.nilFunc]⟩:=aF (by kernel_rfl) (by kernel_rfl) (by kernel_rfl)
theorem ZQ:aA Tryz.prog 39 ⟨12,160,.struct [(0,6,true),(6,6,true)],[.bool false,.string ⟨#[]⟩,.string ⟨#[]⟩,.bool false,.string ⟨#[]⟩,.string ⟨#[]⟩,.bool false,.string ⟨#[]⟩,.string ⟨#[]⟩,.bool false,.string ⟨#[]⟩,.string ⟨#[]⟩]⟩:=aF (by kernel_rfl) (by kernel_rfl) (by kernel_rfl)
theorem ZR:aA Tryz.prog 40 ⟨12,160,.struct [(0,6,true),(6,6,true)],[.bool false,.string ⟨#[]⟩,.string ⟨#[]⟩,.bool false,.string ⟨#[]⟩,.string ⟨#[]⟩,.bool false,.string ⟨#[]⟩,.string ⟨#[]⟩,.bool false,.string ⟨#[]⟩,.string ⟨#[]⟩]⟩:=aF (by kernel_rfl) (by kernel_rfl) (by kernel_rfl)
theorem ZS:aA Tryz.prog 41 ⟨1,8,.other,[.nilFunc]⟩:=aF (by kernel_rfl) (by kernel_rfl) (by kernel_rfl)
theorem ZT:aA Tryz.prog 42 ⟨1,8,.other,[.nilFunc]⟩:=aF (by kernel_rfl) (by kernel_rfl) (by kernel_rfl)
theorem ZU:aA Tryz.prog 43 ⟨1,8,.other,[.nilFunc]⟩:=aF (by kernel_rfl) (by kernel_rfl) (by kernel_rfl)
theorem ZV:aA Tryz.prog 44 ⟨1,8,.other,[.nilFunc]⟩:=aF (by kernel_rfl) (by kernel_rfl) (by kernel_rfl)
theorem ZW:aA Tryz.prog 45 ⟨1,8,.other,[.nilFunc]⟩:=aF (by kernel_rfl) (by kernel_rfl) (by kernel_rfl)
theorem ZX:aA Tryz.prog 47 ⟨1,8,.other,[.nilFunc]⟩:=aF (by kernel_rfl) (by kernel_rfl) (by kernel_rfl)
theorem ZY:aA Tryz.prog 48 ⟨1,8,.other,[.nilFunc]⟩:=aF (by kernel_rfl) (by kernel_rfl) (by kernel_rfl)
theorem ZZ:aA Tryz.prog 49 ⟨1,8,.other,[.nilFunc]⟩:=aF (by kernel_rfl) (by kernel_rfl) (by kernel_rfl)
theorem Z0:aA Tryz.prog 50 ⟨1,8,.other,[.nilFunc]⟩:=aF (by kernel_rfl) (by kernel_rfl) (by kernel_rfl)
theorem Z1:aA Tryz.prog 51 ⟨1,8,.other,[.nilFunc]⟩:=aF (by kernel_rfl) (by kernel_rfl) (by kernel_rfl)
theorem Z2:aA Tryz.prog 52 ⟨1,8,.other,[.nilFunc]⟩:=aF (by kernel_rfl) (by kernel_rfl) (by kernel_rfl)
theorem Z3:aA Tryz.prog 53 ⟨1,8,.other,[.nilFunc]⟩:=aF (by kernel_rfl) (by kernel_rfl) (by kernel_rfl)
theorem Z4:aA Tryz.prog 54 ⟨1,8,.other,[.nilFunc]⟩:=aF (by kernel_rfl) (by kernel_rfl) (by kernel_rfl)
theorem Z5:aA Tryz.prog 55 ⟨1,24,.slice 24,[.slice none 0 0]⟩:=aF (by kernel_rfl) (by kernel_rfl) (by kernel_rfl)
theorem Z6:aA Tryz.prog 56 ⟨1,8,.other,[.nilFunc]⟩:=aF (by kernel_rfl) (by kernel_rfl) (by kernel_rfl)
theorem Z7:aA Tryz.prog 57 ⟨1,8,.other,[.nilFunc]⟩:=aF (by kernel_rfl) (by kernel_rfl) (by kernel_rfl)
theorem Z8:aA Tryz.prog 59 ⟨1,8,.other,[.nilFunc]⟩:=aF (by kernel_rfl) (by kernel_rfl) (by kernel_rfl)
theorem Z9:aA Tryz.prog 61 ⟨1,8,.other,[.nilFunc]⟩:=aF (by kernel_rfl) (by kernel_rfl) (by kernel_rfl)
theorem aaa:aA Tryz.prog 62 ⟨1,8,.other,[.nilFunc]⟩:=aF (by kernel_rfl) (by kernel_rfl) (by kernel_rfl)
theorem aab:aA Tryz.prog 63 ⟨1,8,.other,[.nilFunc]⟩:=aF (by kernel_rfl) (by kernel_rfl) (by kernel_rfl)
theorem aac:aA Tryz.prog 64 ⟨1,8,.other,[.nilFunc]⟩:=aF (by kernel_rfl) (by kernel_rfl) (by kernel_rfl)
theorem aad:aA Tryz.prog 65 ⟨1,8,.other,[.nilFunc]⟩:=aF (by kernel_rfl) (by kernel_rfl) (by kernel_rfl)
theorem aae:aA Tryz.prog 67 ⟨1,8,.other,[.nilFunc]⟩:=aF (by kernel_rfl) (by kernel_rfl) (by kernel_rfl)
theorem aaf:aA Tryz.prog 68 ⟨1,24,.slice 22,[.slice none 0 0]⟩:=aF (by kernel_rfl) (by kernel_rfl) (by kernel_rfl)
theorem aag:aA Tryz.prog 69 ⟨1,8,.other,[.nilFunc]⟩:=aF (by kernel_rfl) (by kernel_rfl) (by kernel_rfl)
theorem aah:aA Tryz.prog 70 ⟨1,8,.other,[.nilFunc]⟩:=aF (by kernel_rfl) (by kernel_rfl) (by kernel_rfl)
theorem aai:aA Tryz.prog 71 ⟨1,8,.other,[.nilFunc]⟩:=aF (by kernel_rfl) (by kernel_rfl) (by kernel_rfl)
theorem aaj:aA Tryz.prog 72 ⟨1,8,.other,[.nilFunc]⟩:=aF (by kernel_rfl) (by kernel_rfl) (by kernel_rfl)
theorem aak:aA Tryz.prog 73 ⟨1,8,.other,[.nilFunc]⟩:=aF (by kernel_rfl) (by kernel_rfl) (by kernel_rfl)
theorem aal:aA Tryz.prog 74 ⟨1,8,.other,[.nilFunc]⟩:=aF (by kernel_rfl) (by kernel_rfl) (by kernel_rfl)
theorem aam:aA Tryz.prog 75 ⟨1,8,.other,[.nilFunc]⟩:=aF (by kernel_rfl) (by kernel_rfl) (by kernel_rfl)
theorem aan:aA Tryz.prog 76 ⟨1,8,.other,[.nilFunc]⟩:=aF (by kernel_rfl) (by kernel_rfl) (by kernel_rfl)
theorem aao:aA Tryz.prog 77 ⟨1,8,.other,[.nilFunc]⟩:=aF (by kernel_rfl) (by kernel_rfl) (by kernel_rfl)
theorem aap:aA Tryz.prog 78 ⟨1,8,.other,[.nilFunc]⟩:=aF (by kernel_rfl) (by kernel_rfl) (by kernel_rfl)
theorem aaq:aA Tryz.prog 79 ⟨1,8,.other,[.nilFunc]⟩:=aF (by kernel_rfl) (by kernel_rfl) (by kernel_rfl)
theorem aar:aA Tryz.prog 80 ⟨1,8,.other,[.nilFunc]⟩:=aF (by kernel_rfl) (by kernel_rfl) (by kernel_rfl)
theorem aas:aA Tryz.prog 81 ⟨1,8,.other,[.nilFunc]⟩:=aF (by kernel_rfl) (by kernel_rfl) (by kernel_rfl)
theorem aat:aA Tryz.prog 82 ⟨1,8,.other,[.nilFunc]⟩:=aF (by kernel_rfl) (by kernel_rfl) (by kernel_rfl)
theorem aau:aA Tryz.prog 83 ⟨1,8,.other,[.nilFunc]⟩:=aF (by kernel_rfl) (by kernel_rfl) (by kernel_rfl)
theorem aav:aA Tryz.prog 84 ⟨1,8,.other,[.nilFunc]⟩:=aF (by kernel_rfl) (by kernel_rfl) (by kernel_rfl)
theorem aaw:aA Tryz.prog 85 ⟨1,8,.other,[.nilFunc]⟩:=aF (by kernel_rfl) (by kernel_rfl) (by kernel_rfl)
theorem aax:aA Tryz.prog 86 ⟨1,8,.other,[.nilFunc]⟩:=aF (by kernel_rfl) (by kernel_rfl) (by kernel_rfl)
theorem aay:aA Tryz.prog 88 ⟨1,8,.other,[.nilFunc]⟩:=aF (by kernel_rfl) (by kernel_rfl) (by kernel_rfl)
theorem aaz:aA Tryz.prog 89 ⟨1,8,.other,[.nilFunc]⟩:=aF (by kernel_rfl) (by kernel_rfl) (by kernel_rfl)
theorem aaA:aA Tryz.prog 90 ⟨1,8,.other,[.nilFunc]⟩:=aF (by kernel_rfl) (by kernel_rfl) (by kernel_rfl)
theorem aaB:aA Tryz.prog 91 ⟨1,8,.other,[.nilFunc]⟩:=aF (by kernel_rfl) (by kernel_rfl) (by kernel_rfl)
theorem aaC:aA Tryz.prog 92 ⟨2,24,.struct [(0,1,false),(1,1,false)],[.bool false,.string ⟨#[]⟩]⟩:=aF (by kernel_rfl) (by kernel_rfl) (by kernel_rfl)
theorem aaD:aA Tryz.prog 93 ⟨2,24,.struct [(0,1,false),(1,1,false)],[.bool false,.string ⟨#[]⟩]⟩:=aF (by kernel_rfl) (by kernel_rfl) (by kernel_rfl)
theorem aaE:aA Tryz.prog 94 ⟨1,8,.other,[.nilFunc]⟩:=aF (by kernel_rfl) (by kernel_rfl) (by kernel_rfl)
theorem aaF:aA Tryz.prog 95 ⟨1,8,.other,[.nilFunc]⟩:=aF (by kernel_rfl) (by kernel_rfl) (by kernel_rfl)
theorem aaG:aA Tryz.prog 96 ⟨4,48,.struct [(0,2,true),(2,2,true)],[.bool false,.string ⟨#[]⟩,.bool false,.string ⟨#[]⟩]⟩:=aF (by kernel_rfl) (by kernel_rfl) (by kernel_rfl)
theorem aaH:aA Tryz.prog 97 ⟨4,48,.struct [(0,2,true),(2,2,true)],[.bool false,.string ⟨#[]⟩,.bool false,.string ⟨#[]⟩]⟩:=aF (by kernel_rfl) (by kernel_rfl) (by kernel_rfl)
theorem aaI:aA Tryz.prog 98 ⟨1,8,.other,[.nilFunc]⟩:=aF (by kernel_rfl) (by kernel_rfl) (by kernel_rfl)
theorem aaJ:aA Tryz.prog 99 ⟨1,8,.other,[.nilFunc]⟩:=aF (by kernel_rfl) (by kernel_rfl) (by kernel_rfl)
theorem W2:aA Tryz.prog 100 ⟨1,8,.other,[.nilFunc]⟩:=aF (by kernel_rfl) (by kernel_rfl) (by kernel_rfl)
theorem W3:aA Tryz.prog 101 ⟨1,8,.other,[.nilFunc]⟩:=aF (by kernel_rfl) (by kernel_rfl) (by kernel_rfl)
theorem W4:aA Tryz.prog 102 ⟨1,8,.other,[.nilFunc]⟩:=aF (by kernel_rfl) (by kernel_rfl) (by kernel_rfl)
theorem W5:aA Tryz.prog 103 ⟨1,8,.other,[.nilFunc]⟩:=aF (by kernel_rfl) (by kernel_rfl) (by kernel_rfl)
theorem W6:aA Tryz.prog 104 ⟨1,8,.other,[.nilFunc]⟩:=aF (by kernel_rfl) (by kernel_rfl) (by kernel_rfl)
theorem W7:aA Tryz.prog 105 ⟨1,8,.other,[.nilFunc]⟩:=aF (by kernel_rfl) (by kernel_rfl) (by kernel_rfl)
theorem W8:aA Tryz.prog 106 ⟨1,8,.other,[.nilFunc]⟩:=aF (by kernel_rfl) (by kernel_rfl) (by kernel_rfl)
theorem W9:aA Tryz.prog 107 ⟨1,8,.other,[.nilFunc]⟩:=aF (by kernel_rfl) (by kernel_rfl) (by kernel_rfl)
theorem Xa:aA Tryz.prog 108 ⟨1,8,.other,[.nilFunc]⟩:=aF (by kernel_rfl) (by kernel_rfl) (by kernel_rfl)
theorem Xb:aA Tryz.prog 110 ⟨1,8,.other,[.nilFunc]⟩:=aF (by kernel_rfl) (by kernel_rfl) (by kernel_rfl)
theorem Xc:aA Tryz.prog 111 ⟨1,8,.other,[.nilFunc]⟩:=aF (by kernel_rfl) (by kernel_rfl) (by kernel_rfl)
theorem Xd:aA Tryz.prog 112 ⟨1,8,.other,[.nilFunc]⟩:=aF (by kernel_rfl) (by kernel_rfl) (by kernel_rfl)
theorem Xe:aA Tryz.prog 113 ⟨1,8,.other,[.nilFunc]⟩:=aF (by kernel_rfl) (by kernel_rfl) (by kernel_rfl)
theorem Xf:aA Tryz.prog 114 ⟨1,8,.other,[.nilFunc]⟩:=aF (by kernel_rfl) (by kernel_rfl) (by kernel_rfl)
theorem Xg:aA Tryz.prog 115 ⟨1,24,.slice 3,[.slice none 0 0]⟩:=aF (by kernel_rfl) (by kernel_rfl) (by kernel_rfl)
theorem Xh:aA Tryz.prog 116 ⟨1,8,.other,[.nilFunc]⟩:=aF (by kernel_rfl) (by kernel_rfl) (by kernel_rfl)
theorem Xi:aA Tryz.prog 117 ⟨1,8,.other,[.nilFunc]⟩:=aF (by kernel_rfl) (by kernel_rfl) (by kernel_rfl)
theorem Xj:aA Tryz.prog 118 ⟨1,8,.other,[.nilFunc]⟩:=aF (by kernel_rfl) (by kernel_rfl) (by kernel_rfl)
theorem Xk:aA Tryz.prog 119 ⟨1,8,.other,[.nilFunc]⟩:=aF (by kernel_rfl) (by kernel_rfl) (by kernel_rfl)
theorem Xl:aA Tryz.prog 120 ⟨9,120,.struct [(0,3,true),(3,3,true),(6,3,true)],[.bool false,.string ⟨#[]⟩,.string ⟨#[]⟩,.bool false,.string ⟨#[]⟩,.string ⟨#[]⟩,.bool false,.string ⟨#[]⟩,.string ⟨#[]⟩]⟩:=aF (by kernel_rfl) (by kernel_rfl) (by kernel_rfl)
theorem Xm:aA Tryz.prog 121 ⟨9,120,.struct [(0,3,true),(3,3,true),(6,3,true)],[.bool false,.string ⟨#[]⟩,.string ⟨#[]⟩,.bool false,.string ⟨#[]⟩,.string ⟨#[]⟩,.bool false,.string ⟨#[]⟩,.string ⟨#[]⟩]⟩:=aF (by kernel_rfl) (by kernel_rfl) (by kernel_rfl)
theorem Xn:aA Tryz.prog 123 ⟨1,8,.other,[.nilFunc]⟩:=aF (by kernel_rfl) (by kernel_rfl) (by kernel_rfl)
theorem Xo:aA Tryz.prog 124 ⟨1,8,.other,[.nilFunc]⟩:=aF (by kernel_rfl) (by kernel_rfl) (by kernel_rfl)
theorem Xp:aA Tryz.prog 125 ⟨1,8,.other,[.nilFunc]⟩:=aF (by kernel_rfl) (by kernel_rfl) (by kernel_rfl)
theorem Xq:aA Tryz.prog 126 ⟨1,8,.other,[.nilFunc]⟩:=aF (by kernel_rfl) (by kernel_rfl) (by kernel_rfl)
theorem Xr:aA Tryz.prog 127 ⟨1,8,.other,[.nilFunc]⟩:=aF (by kernel_rfl) (by kernel_rfl) (by kernel_rfl)
theorem Xs:aA Tryz.prog 128 ⟨1,8,.other,[.nilFunc]⟩:=aF (by kernel_rfl) (by kernel_rfl) (by kernel_rfl)
theorem Xt:aA Tryz.prog 129 ⟨1,8,.int .u64,[.int .u64 0]⟩:=aF (by kernel_rfl) (by kernel_rfl) (by kernel_rfl)
theorem Xu:aA Tryz.prog 130 ⟨1,8,.other,[.nilFunc]⟩:=aF (by kernel_rfl) (by kernel_rfl) (by kernel_rfl)
theorem Xv:aA Tryz.prog 131 ⟨1,4,.int .u32,[.int .u32 0]⟩:=aF (by kernel_rfl) (by kernel_rfl) (by kernel_rfl)
theorem Xw:aA Tryz.prog 132 ⟨1,8,.int .u64,[.int .u64 0]⟩:=aF (by kernel_rfl) (by kernel_rfl) (by kernel_rfl)
theorem Xx:aA Tryz.prog 133 ⟨1,24,.slice 131,[.slice none 0 0]⟩:=aF (by kernel_rfl) (by kernel_rfl) (by kernel_rfl)
theorem Xy:aA Tryz.prog 134 ⟨1,24,.slice 131,[.slice none 0 0]⟩:=aF (by kernel_rfl) (by kernel_rfl) (by kernel_rfl)
theorem Xz:aA Tryz.prog 135 ⟨1,8,.other,[.nilFunc]⟩:=aF (by kernel_rfl) (by kernel_rfl) (by kernel_rfl)
theorem XA:aA Tryz.prog 137 ⟨1,8,.other,[.nilFunc]⟩:=aF (by kernel_rfl) (by kernel_rfl) (by kernel_rfl)
theorem XB:aA Tryz.prog 138 ⟨1,8,.other,[.nilFunc]⟩:=aF (by kernel_rfl) (by kernel_rfl) (by kernel_rfl)
theorem XC:aA Tryz.prog 139 ⟨1,8,.other,[.nilFunc]⟩:=aF (by kernel_rfl) (by kernel_rfl) (by kernel_rfl)
theorem XD:aA Tryz.prog 140 ⟨1,8,.other,[.nilFunc]⟩:=aF (by kernel_rfl) (by kernel_rfl) (by kernel_rfl)
theorem XE:aA Tryz.prog 142 ⟨1,8,.other,[.nilFunc]⟩:=aF (by kernel_rfl) (by kernel_rfl) (by kernel_rfl)
theorem XF:aA Tryz.prog 143 ⟨1,8,.other,[.nilFunc]⟩:=aF (by kernel_rfl) (by kernel_rfl) (by kernel_rfl)
theorem XG:aA Tryz.prog 144 ⟨1,8,.other,[.nilFunc]⟩:=aF (by kernel_rfl) (by kernel_rfl) (by kernel_rfl)
theorem XH:aA Tryz.prog 146 ⟨1,8,.other,[.nilFunc]⟩:=aF (by kernel_rfl) (by kernel_rfl) (by kernel_rfl)
theorem XI:aA Tryz.prog 147 ⟨1,8,.other,[.nilFunc]⟩:=aF (by kernel_rfl) (by kernel_rfl) (by kernel_rfl)
theorem XJ:aA Tryz.prog 148 ⟨1,8,.other,[.nilFunc]⟩:=aF (by kernel_rfl) (by kernel_rfl) (by kernel_rfl)
theorem XL:aA Tryz.prog 149 ⟨1,8,.other,[.nilFunc]⟩:=aF (by kernel_rfl) (by kernel_rfl) (by kernel_rfl)
theorem XM:aA Tryz.prog 150 ⟨1,8,.other,[.nilFunc]⟩:=aF (by kernel_rfl) (by kernel_rfl) (by kernel_rfl)
theorem XN:aA Tryz.prog 152 ⟨1,8,.other,[.nilFunc]⟩:=aF (by kernel_rfl) (by kernel_rfl) (by kernel_rfl)
theorem XO:aA Tryz.prog 153 ⟨1,8,.other,[.nilFunc]⟩:=aF (by kernel_rfl) (by kernel_rfl) (by kernel_rfl)
theorem XP:aA Tryz.prog 154 ⟨1,8,.other,[.nilFunc]⟩:=aF (by kernel_rfl) (by kernel_rfl) (by kernel_rfl)
theorem XQ:aA Tryz.prog 156 ⟨1,8,.other,[.nilFunc]⟩:=aF (by kernel_rfl) (by kernel_rfl) (by kernel_rfl)
theorem XR:aA Tryz.prog 157 ⟨1,8,.other,[.nilFunc]⟩:=aF (by kernel_rfl) (by kernel_rfl) (by kernel_rfl)
theorem XT:aA Tryz.prog 158 ⟨1,8,.other,[.nilFunc]⟩:=aF (by kernel_rfl) (by kernel_rfl) (by kernel_rfl)
theorem XU:aA Tryz.prog 159 ⟨8,8,.array 8 5,[.int .u8 0,.int .u8 0,.int .u8 0,.int .u8 0,.int .u8 0,.int .u8 0,.int .u8 0,.int .u8 0]⟩:=aF (by kernel_rfl) (by kernel_rfl) (by kernel_rfl)
theorem XW:aA Tryz.prog 160 ⟨1,24,.slice 5,[.slice none 0 0]⟩:=aF (by kernel_rfl) (by kernel_rfl) (by kernel_rfl)
theorem XX:aA Tryz.prog 162 ⟨1,8,.other,[.nilFunc]⟩:=aF (by kernel_rfl) (by kernel_rfl) (by kernel_rfl)
theorem XY:aA Tryz.prog 163 ⟨1,8,.other,[.nilFunc]⟩:=aF (by kernel_rfl) (by kernel_rfl) (by kernel_rfl)
theorem XZ:aA Tryz.prog 164 ⟨1,8,.other,[.nilFunc]⟩:=aF (by kernel_rfl) (by kernel_rfl) (by kernel_rfl)
theorem X0:aA Tryz.prog 165 ⟨1,8,.other,[.nilFunc]⟩:=aF (by kernel_rfl) (by kernel_rfl) (by kernel_rfl)
theorem X1:aA Tryz.prog 167 ⟨1,8,.other,[.nilFunc]⟩:=aF (by kernel_rfl) (by kernel_rfl) (by kernel_rfl)
theorem X2:aA Tryz.prog 168 ⟨1,8,.other,[.nilFunc]⟩:=aF (by kernel_rfl) (by kernel_rfl) (by kernel_rfl)
theorem X3:aA Tryz.prog 169 ⟨1,8,.other,[.nilFunc]⟩:=aF (by kernel_rfl) (by kernel_rfl) (by kernel_rfl)
theorem X4:aA Tryz.prog 170 ⟨1,8,.other,[.nilFunc]⟩:=aF (by kernel_rfl) (by kernel_rfl) (by kernel_rfl)
theorem X5:aA Tryz.prog 172 ⟨1,8,.other,[.nilFunc]⟩:=aF (by kernel_rfl) (by kernel_rfl) (by kernel_rfl)
theorem X6:aA Tryz.prog 173 ⟨8,128,.array 8 9,[.string ⟨#[]⟩,.string ⟨#[]⟩,.string ⟨#[]⟩,.string ⟨#[]⟩,.string ⟨#[]⟩,.string ⟨#[]⟩,.string ⟨#[]⟩,.string ⟨#[]⟩]⟩:=aF (by kernel_rfl) (by kernel_rfl) (by kernel_rfl)
theorem X7:aA Tryz.prog 177 ⟨4,40,.struct [(0,1,false),(1,1,false),(2,1,false),(3,1,false)],[.pointer none,.pointer none,.pointer none,.string ⟨#[]⟩]⟩:=aF (by kernel_rfl) (by kernel_rfl) (by kernel_rfl)
theorem X8:aA Tryz.prog 178 ⟨4,40,.struct [(0,1,false),(1,1,false),(2,1,false),(3,1,false)],[.pointer none,.pointer none,.pointer none,.string ⟨#[]⟩]⟩:=aF (by kernel_rfl) (by kernel_rfl) (by kernel_rfl)
theorem X9:aA Tryz.prog 182 ⟨1,8,.other,[.nilFunc]⟩:=aF (by kernel_rfl) (by kernel_rfl) (by kernel_rfl)
theorem Ya:aA Tryz.prog 183 ⟨1,1,.int .u8,[.int .u8 0]⟩:=aF (by kernel_rfl) (by kernel_rfl) (by kernel_rfl)
theorem Yb:aA Tryz.prog 184 ⟨1,1,.int .u8,[.int .u8 0]⟩:=aF (by kernel_rfl) (by kernel_rfl) (by kernel_rfl)
theorem Yc:aA Tryz.prog 185 ⟨1,8,.other,[.nilFunc]⟩:=aF (by kernel_rfl) (by kernel_rfl) (by kernel_rfl)
theorem Yd:aA Tryz.prog 187 ⟨1,4,.int .i32,[.int .i32 0]⟩:=aF (by kernel_rfl) (by kernel_rfl) (by kernel_rfl)
theorem Ye:aA Tryz.prog 188 ⟨1,4,.int .i32,[.int .i32 0]⟩:=aF (by kernel_rfl) (by kernel_rfl) (by kernel_rfl)
theorem Yf:aA Tryz.prog 189 ⟨11,48,.struct [(0,1,false),(1,1,false),(2,1,false),(3,1,false),(4,1,false),(5,1,false),(6,1,false),(7,1,false),(8,1,false),(9,1,false),(10,1,false)],[.int .u64 0,.int .u64 0,.int .u32 0,.int .u8 0,.int .u8 0,.int .u8 0,.int .u8 0,.nilFunc,.pointer none,.int .i32 0,.int .i32 0]⟩:=aF (by kernel_rfl) (by kernel_rfl) (by kernel_rfl)
theorem Yg:aA Tryz.prog 190 ⟨11,48,.struct [(0,1,false),(1,1,false),(2,1,false),(3,1,false),(4,1,false),(5,1,false),(6,1,false),(7,1,false),(8,1,false),(9,1,false),(10,1,false)],[.int .u64 0,.int .u64 0,.int .u32 0,.int .u8 0,.int .u8 0,.int .u8 0,.int .u8 0,.nilFunc,.pointer none,.int .i32 0,.int .i32 0]⟩:=aF (by kernel_rfl) (by kernel_rfl) (by kernel_rfl)
theorem Yh:aA Tryz.prog 191 ⟨1,16,.struct [(0,1,false)],[.string ⟨#[]⟩]⟩:=aF (by kernel_rfl) (by kernel_rfl) (by kernel_rfl)
theorem Yi:aA Tryz.prog 192 ⟨1,16,.struct [(0,1,false)],[.string ⟨#[]⟩]⟩:=aF (by kernel_rfl) (by kernel_rfl) (by kernel_rfl)
theorem uu:∀ t ti,tt t=some ti→aA Tryz.prog t ti:=by
 intro t ti h;unfold tt at h
 split at h
 ·cases h; exact abF
 ·cases h; exact abG
 ·cases h; exact abH
 ·cases h; exact abI
 ·cases h; exact abJ
 ·cases h; exact abK
 ·cases h; exact abL
 ·cases h; exact abM
 ·cases h; exact abN
 ·cases h; exact Zt
 ·cases h; exact Zu
 ·cases h; exact Zv
 ·cases h; exact Zw
 ·cases h; exact Zx
 ·cases h; exact Zy
 ·cases h; exact Zz
 ·cases h; exact ZA
 ·cases h; exact ZB
 ·cases h; exact ZC
 ·cases h; exact ZD
 ·cases h; exact ZF
 ·cases h; exact ZG
 ·cases h; exact ZH
 ·cases h; exact ZI
 ·cases h; exact ZJ
 ·cases h; exact ZK
 ·cases h; exact ZL
 ·cases h; exact ZM
 ·cases h; exact ZN
 ·cases h; exact ZO
 ·cases h; exact ZP
 ·cases h; exact ZQ
 ·cases h; exact ZR
 ·cases h; exact ZS
 ·cases h; exact ZT
 ·cases h; exact ZU
 ·cases h; exact ZV
 ·cases h; exact ZW
 ·cases h; exact ZX
 ·cases h; exact ZY
 ·cases h; exact ZZ
 ·cases h; exact Z0
 ·cases h; exact Z1
 ·cases h; exact Z2
 ·cases h; exact Z3
 ·cases h; exact Z4
 ·cases h; exact Z5
 ·cases h; exact Z6
 ·cases h; exact Z7
 ·cases h; exact Z8
 ·cases h; exact Z9
 ·cases h; exact aaa
 ·cases h; exact aab
 ·cases h; exact aac
 ·cases h; exact aad
 ·cases h; exact aae
 ·cases h; exact aaf
 ·cases h; exact aag
 ·cases h; exact aah
 ·cases h; exact aai
 ·cases h; exact aaj
 ·cases h; exact aak
 ·cases h; exact aal
 ·cases h; exact aam
 ·cases h; exact aan
 ·cases h; exact aao
 ·cases h; exact aap
 ·cases h; exact aaq
 ·cases h; exact aar
 ·cases h; exact aas
 ·cases h; exact aat
 ·cases h; exact aau
 ·cases h; exact aav
 ·cases h; exact aaw
 ·cases h; exact aax
 ·cases h; exact aay
 ·cases h; exact aaz
 ·cases h; exact aaA
 ·cases h; exact aaB
 ·cases h; exact aaC
 ·cases h; exact aaD
 ·cases h; exact aaE
 ·cases h; exact aaF
 ·cases h; exact aaG
 ·cases h; exact aaH
 ·cases h; exact aaI
 ·cases h; exact aaJ
 ·cases h; exact W2
 ·cases h; exact W3
 ·cases h; exact W4
 ·cases h; exact W5
 ·cases h; exact W6
 ·cases h; exact W7
 ·cases h; exact W8
 ·cases h; exact W9
 ·cases h; exact Xa
 ·cases h; exact Xb
 ·cases h; exact Xc
 ·cases h; exact Xd
 ·cases h; exact Xe
 ·cases h; exact Xf
 ·cases h; exact Xg
 ·cases h; exact Xh
 ·cases h; exact Xi
 ·cases h; exact Xj
 ·cases h; exact Xk
 ·cases h; exact Xl
 ·cases h; exact Xm
 ·cases h; exact Xn
 ·cases h; exact Xo
 ·cases h; exact Xp
 ·cases h; exact Xq
 ·cases h; exact Xr
 ·cases h; exact Xs
 ·cases h; exact Xt
 ·cases h; exact Xu
 ·cases h; exact Xv
 ·cases h; exact Xw
 ·cases h; exact Xx
 ·cases h; exact Xy
 ·cases h; exact Xz
 ·cases h; exact XA
 ·cases h; exact XB
 ·cases h; exact XC
 ·cases h; exact XD
 ·cases h; exact XE
 ·cases h; exact XF
 ·cases h; exact XG
 ·cases h; exact XH
 ·cases h; exact XI
 ·cases h; exact XJ
 ·cases h; exact XL
 ·cases h; exact XM
 ·cases h; exact XN
 ·cases h; exact XO
 ·cases h; exact XP
 ·cases h; exact XQ
 ·cases h; exact XR
 ·cases h; exact XT
 ·cases h; exact XU
 ·cases h; exact XW
 ·cases h; exact XX
 ·cases h; exact XY
 ·cases h; exact XZ
 ·cases h; exact X0
 ·cases h; exact X1
 ·cases h; exact X2
 ·cases h; exact X3
 ·cases h; exact X4
 ·cases h; exact X5
 ·cases h; exact X6
 ·cases h; exact X7
 ·cases h; exact X8
 ·cases h; exact X9
 ·cases h; exact Ya
 ·cases h; exact Yb
 ·cases h; exact Yc
 ·cases h; exact Yd
 ·cases h; exact Ye
 ·cases h; exact Yf
 ·cases h; exact Yg
 ·cases h; exact Yh
 ·cases h; exact Yi
 ·cases h
def En (cs:List (Nat × tY)) (fs:List (Nat × FT):=[]) (is:List (Nat × (Nat→FT→Nu→FT)):=[]) (gR:Bool:=false):Env:={ tt:=tt,eqs:=[],gR:=gR,Φ:=pM cs,Ψ:=pM fs,It:=pM is }
theorem bC {cs:List (Nat × tY)} {fs:List (Nat × FT)} {is:List (Nat × (Nat→FT→Nu→FT))} {gR:Bool} (h:uB (CH Tryz.prog) cs) (J:uB (fJ Tryz.prog) fs):EnvOk Tryz.prog (En cs fs is gR):=⟨uu,(fun _ h=>nomatch h),fun _ _=>v5 h,fun _ _=>v5 J⟩
theorem vj {cs:List (Nat × tY)} {fs:List (Nat × FT)} {is:List (Nat × (Nat→FT→Nu→FT))} {gR:Bool} (h:uB (zc Tryz.prog) is):gw Tryz.prog (En cs fs is gR):=fun _ _=>v5 h
set_option maxRecDepth 20000
open Go Go.Ae
def E0:Env:={ tt:=tt,eqs:=[],Φ:=fun _=>none }
theorem lu:EnvOk Tryz.prog E0:=⟨uu,fun t h=>by simp [E0] at h,fun g S h=>by simp [E0] at h,fun g F h=>by simp [E0] at h⟩
theorem mixed:Tryz.prog.follows .mixedOrders=true:=by kernel_rfl
theorem aK:mW Tryz.prog cG:=UD mixed
theorem VB:bc Tryz.prog 197 tU:=by
 refine bf lu aK Tryz.func197 (enters_of Tryz.func197 (by kernel_rfl) rfl) (fun _=>rfl) (fun _=>rfl) ?_
 intro ⟨x,y,c⟩ hp;have hp:x < 4294967296∧y < 4294967296∧c≤1:=hp;simp only [tU];conv=>whnf
 simp (disch:=omega) only [bH,v8,b6]
 congr
 omega
theorem ML:bc Tryz.prog 167 kQ:=by
 refine bf lu aK Tryz.func167 (enters_of Tryz.func167 (by kernel_rfl) rfl) (fun _=>rfl) (fun _=>rfl) ?_
 intro ⟨x,y,c⟩ hp;have hp:x < 4294967296∧y < 4294967296∧c≤1:=hp;simp only [kQ];conv=>whnf
 show Value.tuple ⟨[.int .u32 (B8 x y c),.int .u32 (Gy x y c)]⟩=_
 rw [Lu hp.1 hp.2.1 hp.2.2,Tw hp.1 hp.2.1 hp.2.2]
 split <;> rfl
theorem VC:bc Tryz.prog 195 B9:=by
 refine bf lu aK Tryz.func195 (enters_of Tryz.func195 (by kernel_rfl) rfl) (fun _=>rfl) (fun _=>rfl) ?_
 intro ⟨x,y,c⟩ hp;have hp:x < c∧y < 4294967296∧c < 4294967296:=hp;simp only [B9];conv=>whnf
 have h1:((c:Int) != 0)=true:=by simp; omega
 have J:decide ((c:Int)≤(x:Int))=false:=by simp; omega
 simp only [h1];conv=>whnf
 simp only [J];conv=>whnf
 refine .inl ⟨11,[[],[],[1],[0,1,2],[0,1,2,3],[],[],[6],[5,6,7],[5,6,7,8],[0,1,2,3,4],[0,1,2,3,4,5,6,7,8,9,10]],by kernel_rfl,?_⟩
 conv=>whnf
 try simp (disch:=omega) only [ax,bH,cZ,dq,b6,dF,di,dH,cU,c0,dh,dn,dj,dy,toNat_cast,au,Nat.zero_add,dE,toNat_0,toNat_1,Nat.sub_zero,dJ,dK,dN,dO,dA,dI,dG,dL]
 refine mB (decide_eq_true (by omega)) ?_
 conv=>whnf
 refine mB (decide_eq_true (by rw [bH (by omega) (by omega)]; omega)) ?_
 conv=>whnf
 try simp (disch:=omega) only [ax,bH,cZ,dq,b6,dF,di,dH,cU,c0,dh,dn,dj,dy,toNat_cast,au,Nat.zero_add,dE,toNat_0,toNat_1,Nat.sub_zero,dJ,dK,dN,dO,dA,dI,dG,dL]
 have e1:((x:Int)*4294967296+y).tdiv c=((x*4294967296+y) / c:Nat):=rfl;have e2:((x:Int)*4294967296+y).tmod c=((x*4294967296+y) % c:Nat):=rfl;have e3:(x*4294967296+y) / c < 4294967296:=by
  refine (Nat.div_lt_iff_lt_mul (by omega)).2 ?_
  have:(x+1)*4294967296≤c*4294967296:=Nat.mul_le_mul_right _ hp.1;omega
 have e4:(x*4294967296+y) % c < c:=Nat.mod_lt _ (by omega)
 generalize (x*4294967296+y) / c=q at *;generalize (x*4294967296+y) % c=r at *;rw [e1,e2,bH (by omega) (by omega),cZ (by omega) (by omega),cZ (by omega) (by omega)]
theorem VD:bc Tryz.prog 196 GA:=by
 refine bf lu aK Tryz.func196 (enters_of Tryz.func196 (by kernel_rfl) rfl) (fun _=>rfl) (fun _=>rfl) ?_
 intro (x:Nat) (hx:x < 4294967296);simp only [GA];have fin:∀ (y k:Nat),y < 256→∀ (T:ByteArray),(∀ x,x < 256→bT T x=eM x)→k≤24→IntKind.i64.wrap ((k:Int)+IntKind.i64.wrap (bT T (IntKind.u8.wrap (y:Int)).toNat:Int))=((k+eM y:Nat):Int):=by
  intro y k hy T hT hk;have hb:=Wa hy;rw [dq (by omega) (by omega),toNat_cast,hT y hy]
  simp (disch:=omega) only [ax];omega
 conv=>whnf
 refine aI (fun h=>?_) (fun h=>?_)
 ·have h:65536≤x:=by simp at h; omega
  conv=>whnf
  have e1:(x:Int).fdiv (2 ^ min (Int.toNat 16) IntKind.u32.bits)=((x / 65536:Nat):Int):=by rw [dh]; rfl
  simp only [e1];refine aI (fun J=>?_) (fun J=>?_)
  ·have J:256≤x / 65536:=by simp at J; omega
   conv=>whnf
   have e2:((x / 65536:Nat):Int).fdiv (2 ^ min (Int.toNat 8) IntKind.u32.bits)=((x / 65536 / 256:Nat):Int):=by rw [c0]; rfl
   simp only [e2];refine ⟨⟨?_,?_⟩,?_⟩
   ·rw [kM]; omega
   ·show _ < ((256:Nat):Int)
    rw [kM]; omega
   ·conv=>whnf
    have e3:IntKind.i64.wrap (16+8)=((24:Nat):Int):=rfl;rw [e3];refine congrArg (Value.int .i64) ((fin (x / 65536 / 256) 24 (by omega) _ (by decide +kernel) (by omega)).trans ?_)
    have a1:=AW (x:=x) (k:=16) (by omega)
    have a2:=AW (x:=x / 65536) (k:=8) (by omega)
    have q1:(2:Nat) ^ 16=65536:=rfl;have q2:(2:Nat) ^ 8=256:=rfl;rw [q1] at a1;rw [q2] at a2;rw [a1,a2]; omega
  ·have J:x / 65536 < 256:=by simp at J; omega
   conv=>whnf
   refine ⟨⟨?_,?_⟩,?_⟩
   ·rw [kM]; omega
   ·show _ < ((256:Nat):Int)
    rw [kM]; omega
   ·conv=>whnf
    refine congrArg (Value.int .i64) ((fin (x / 65536) 16 (by omega) _ (by decide +kernel) (by omega)).trans ?_)
    have a1:=AW (x:=x) (k:=16) (by omega)
    have q1:(2:Nat) ^ 16=65536:=rfl;rw [q1] at a1;rw [a1]
 ·have h:x < 65536:=by simp at h; omega
  conv=>whnf
  refine aI (fun J=>?_) (fun J=>?_)
  ·have J:256≤x:=by simp at J; omega
   conv=>whnf
   have e2:(x:Int).fdiv (2 ^ min (Int.toNat 8) IntKind.u32.bits)=((x / 256:Nat):Int):=by rw [c0]; rfl
   simp only [e2];refine ⟨⟨?_,?_⟩,?_⟩
   ·rw [kM]; omega
   ·show _ < ((256:Nat):Int)
    rw [kM]; omega
   ·conv=>whnf
    have e3:IntKind.i64.wrap (0+8)=((8:Nat):Int):=rfl;rw [e3];refine congrArg (Value.int .i64) ((fin (x / 256) 8 (by omega) _ (by decide +kernel) (by omega)).trans ?_)
    have a1:=AW (x:=x) (k:=8) (by omega)
    have q1:(2:Nat) ^ 8=256:=rfl;rw [q1] at a1;rw [a1]
  ·have J:x < 256:=by simp at J; omega
   conv=>whnf
   refine ⟨⟨?_,?_⟩,?_⟩
   ·rw [kM]; omega
   ·show _ < ((256:Nat):Int)
    rw [kM]; omega
   ·conv=>whnf
    refine congrArg (Value.int .i64) ((fin x 0 (by omega) _ (by decide +kernel) (by omega)).trans ?_)
    rw [Nat.zero_add]
def E1:Env:={ tt:=tt,eqs:=[],Φ:=fun g=>match g with | 196=>some (.p GA) | _=>none }
theorem adr:EnvOk Tryz.prog E1:=⟨uu,fun t h=>by simp [E1] at h,(fun g S h=>by
 simp only [E1] at h
 split at h
 ·cases h; exact VD
 ·cases h),fun g F h=>by simp [E1] at h⟩
theorem Yj:bc Tryz.prog 184 Cu:=by
 refine bf adr aK Tryz.func184 (enters_of Tryz.func184 (by kernel_rfl) rfl) (fun _=>rfl) (fun _=>rfl) ?_
 intro (x:Nat) (hx:x < 4294967296);simp only [Cu];conv=>whnf
 refine ⟨x,rfl,hx,?_⟩;conv=>whnf
 have hb:=Mf hx;rw [ax (by omega) (by omega)]
 congr 1; omega
open Go Go.Ae
theorem FO:bc Tryz.prog 165 ko:=by
 refine bf lu aK Tryz.func165 (enters_of Tryz.func165 (by kernel_rfl) rfl) (fun _=>rfl) (fun _=>rfl) ?_
 intro (s:ByteArray) (hs:s.size≤1099511627776);simp only [ko];conv=>whnf
 refine .inl ⟨fun mm tz hz=>∃ (u:ByteArray),bt (some (.string u)::aC 12 []) tz∧hz=[]∧u.size=mm∧(ab u=ab s∧u.size≤s.size),.inl ⟨_,s,(.aa (.sk 12 .nil rfl)),rfl,rfl,?_⟩,?_⟩
 ·exact ⟨rfl,Nat.le_refl _⟩
 rintro mm aS _ ⟨u,aw,rfl,rfl,⟨hu,hle⟩⟩
 obtain ⟨az,rfl⟩:∃ az:Nat→Value,aS=.string u::zs az 1 12 []:=bF aw;clear aw;conv=>whnf
 refine aI (fun h1=>?_) (fun h1=>?_)
 ·simp only [h1];conv=>whnf
  rw [pH] at h1;have h1:u.size≠0:=fun h=>by simp [EZ.2 h] at h1
  refine ⟨⟨by omega,by omega⟩,?_⟩
  conv=>whnf
  refine aI (fun J=>?_) (fun J=>?_)
  ·conv=>whnf
   refine ⟨⟨by omega,by omega,by omega⟩,?_⟩
   conv=>whnf
   have e1:u.extract (Int.toNat 1) (Int.toNat u.size)=u.extract 1 u.size:=rfl;have J:bT u 0=0:=by
    have J:((bT u 0:Nat):Int)=0:=by simpa using J
    omega
   have h3:=tc (s:=u) (i:=0) (by omega)
   have h4:=fY u;have aT:(u.extract 1 u.size).size=u.size - 1:=DT (by omega) (Nat.le_refl _)
   have hb:ab (u.extract 1 u.size)=ab u:=by
    rw [DX (by omega) (Nat.le_refl _),Nat.sub_self,Nat.pow_zero,Nat.div_one]
    refine Nat.mod_eq_of_lt ?_;rw [J,Nat.sub_zero] at h3;have h5:ab u / C ^ (u.size - 1) < C:=(Nat.div_lt_iff_lt_mul (gB _)).2 (by
     rw [Nat.mul_comm,← Nat.pow_succ,show (u.size - 1).succ=u.size by omega]; exact h4)
    rw [Nat.mod_eq_of_lt h5] at h3;rcases Nat.lt_or_ge (ab u) (C ^ (u.size - 1)) with h6 | h6
    ·exact h6
    ·have:=Nat.div_pos h6 (gB _);omega
   refine .inl ⟨_,?_,u.extract 1 u.size,(.aa (.sk 12 .nil rfl)),rfl,rfl,?_⟩
   ·rw [aT]; omega
   ·exact ⟨by rw [hb,hu],by rw [aT]; omega⟩
  ·conv=>whnf
   have J:bT u 0≠0:=by
    intro h;have e:bT u (Int.toNat 0)=bT u 0:=rfl;rw [e,h] at J;simp at J
   rw [← hu,← yz (.inr J)]
 ·simp only [h1];conv=>whnf
  rw [pH] at h1;have h1:u=⟨#[]⟩:=by simpa using h1
  have J:u.size=0:=EZ.1 h1;rw [← hu,← yz (.inl J)]
def Ea:Env:={ tt:=tt,eqs:=[],Φ:=fun g=>match g with
 | 165=>some (.p ko)
 | _=>none }
theorem C4:EnvOk Tryz.prog Ea:=⟨uu,fun t h=>by simp [Ea] at h,(fun g S h=>by
 simp only [Ea] at h
 split at h
 ·cases h; exact FO
 ·cases h),fun g F h=>by simp [Ea] at h⟩
theorem BO:c7 Tryz.prog 161 rO:=by
 refine dR C4 aK Tryz.func161 (enters_of Tryz.func161 (by kernel_rfl) rfl) ?_ ?_ ?_
 ·intro i b hb;cases i with
  | none=>simp [rO,LV.aj] at hb
  | some i=>simp [rO,LV.aj] at hb; rw [hb]; rfl
 ·intro i b hb; simp [rO] at hb
 intro i hp;cases i with
 | none =>
  conv=>whnf
  refine .inr ⟨1,?_⟩;conv=>whnf
  exact ⟨_,rfl,.refl _⟩
 | some i =>
  obtain ⟨n,N,c⟩:=i;have hp:N < 4294967296 ^ n∧n≤274877906944:=hp;conv=>whnf
  refine .inl ⟨fun mm tz hz=>∃ (m:Nat),bt (some (.slice (some ⟨0,0,none⟩) m c)::aC 20 []) tz∧hz=[some (.flat false n 1 (bk N))]∧m=mm∧(N < 4294967296 ^ m∧m≤n),.inl ⟨_,n,(.aa (.sk 20 .nil rfl)),rfl,rfl,?_⟩,?_⟩
  ·exact ⟨hp.1,Nat.le_refl _⟩
  rintro mm aS _ ⟨m,aw,rfl,rfl,h⟩
  obtain ⟨az,rfl⟩:∃ az:Nat→Value,aS=.slice (some ⟨0,0,none⟩) m c::zs az 1 20 []:=bF aw;clear aw;conv=>whnf
  refine aI (fun h1=>?_) (fun h1=>?_)
  ·simp only [h1];have h1:0 < m:=by simpa using h1
   conv=>whnf
   try simp (disch:=omega) only [ax,bH,cZ,dq,b6,dF,di,dH,cU,c0,dh,dn,dj,dy,toNat_cast,au,Nat.zero_add,dE,toNat_0,toNat_1,Nat.sub_zero,dJ,dK,dN,dO,dA,dI,dG,dL]
   refine ⟨⟨by omega,by omega⟩,?_⟩
   try simp (disch:=omega) only [ax,bH,cZ,dq,b6,dF,di,dH,cU,c0,dh,dn,dj,dy,toNat_cast,au,Nat.zero_add,dE,toNat_0,toNat_1,Nat.sub_zero,dJ,dK,dN,dO,dA,dI,dG,dL]
   conv=>whnf
   refine ⟨by omega,?_⟩
   conv=>whnf
   refine aI (fun J=>?_) (fun J=>?_)
   ·have J:al N (m - 1)=0:=by
     have J:((al N (m - 1):Nat):Int)=0:=by simpa using J
     omega
    conv=>whnf
    try simp (disch:=omega) only [ax,bH,cZ,dq,b6,dF,di,dH,cU,c0,dh,dn,dj,dy,toNat_cast,au,Nat.zero_add,dE,toNat_0,toNat_1,Nat.sub_zero,dJ,dK,dN,dO,dA,dI,dG,dL]
    refine ⟨⟨by omega,by omega,by omega⟩,?_⟩
    try simp (disch:=omega) only [ax,bH,cZ,dq,b6,dF,di,dH,cU,c0,dh,dn,dj,dy,toNat_cast,au,Nat.zero_add,dE,toNat_0,toNat_1,Nat.sub_zero,dJ,dK,dN,dO,dA,dI,dG,dL]
    conv=>whnf
    refine .inl ⟨_,?_,m - 1,(.aa (.sk 20 .nil rfl)),rfl,rfl,?_⟩
    ·omega
    ·refine ⟨?_,by omega⟩
     have h3:=mod_succ N (m - 1);have h4:=Nat.mod_lt N (dM (m - 1));rw [show m - 1+1=m by omega,J,Nat.mod_eq_of_lt h.1] at h3
     have h5:N % B ^ (m - 1) < 4294967296 ^ (m - 1):=h4;omega
   ·have J:al N (m - 1)≠0:=by
     intro h;rw [h] at J;simp at J
    conv=>whnf
    have e:=Om (N:=N) (n:=m) h.1 (.inr J);refine ⟨_,rfl,?_⟩;rw [e];exact .refl _
  ·simp only [h1];have h1:m=0:=by simpa using h1
   conv=>whnf
   have e:=Om (N:=N) (n:=m) h.1 (.inl h1);refine ⟨_,rfl,?_⟩;rw [e];exact .refl _
theorem BP:c7 Tryz.prog 135 uh:=by
 refine dR C4 aK Tryz.func135 (enters_of Tryz.func135 (by kernel_rfl) rfl) ?_ ?_ ?_
 ·intro i b hb; simp [uh] at hb
 ·intro i b hb; simp [uh] at hb; rw [← hb]; rfl
 intro (s:ByteArray) (hs:s.size≤1099511627776);conv=>whnf
 refine ⟨s,rfl,hs,?_⟩;conv=>whnf
 have aT:=iL s;have bZ:=NK (ab s);generalize hN:ab s=N at *;have e1:IntKind.i64.wrap ((IntKind.i64.wrap (IntKind.i64.wrap (((nb N).size:Int)+4) - 1)).tdiv 4)=((nl N:Nat):Int):=by
  rw [gl];simp (disch:=omega) only [ax];have:((aO N:Int)+4 - 1)=((aO N+3:Nat):Int):=by omega
  rw [this,dA,ax (by omega) (by omega),bZ]
 simp only [e1];refine ⟨⟨by omega,by omega,by show _*((4:Nat):Int)≤_; omega⟩,?_⟩
 try simp (disch:=omega) only [ax,bH,cZ,dq,b6,dF,di,dH,cU,c0,dh,dn,dj,dy,toNat_cast,au,Nat.zero_add,dE,toNat_0,toNat_1,Nat.sub_zero,dJ,dK,dN,dO,dA,dI,dG,dL]
 conv=>whnf
 simp only [sZ];refine .inl ⟨fun mm tz hz=>∃ (i:Nat) (Y:Nat),bt (some (.string (nb N))::aC 2 (some (.slice (some ⟨0,0,none⟩) (nl N) (nl N))::aC 11 (some (.int .i64 (nb N).size)::some (.int .i64 i)::aC 24 []))) tz∧hz=[some (.flat true (nl N) 1 (bk Y))]∧aO N - i=mm∧(i≤aO N∧Y=N % C ^ i),.inl ⟨_,0,0,(.aa (.sk 2 (.aa (.sk 11 (.aa (.aa (.sk 24 .nil rfl))) rfl)) rfl)),rfl,rfl,?_⟩,?_⟩
 ·exact ⟨Nat.zero_le _,by simp [Nat.mod_one]⟩
 rintro mm aS _ ⟨i,Y,aw,rfl,rfl,⟨h,hY⟩⟩
 obtain ⟨az,rfl⟩:∃ az:Nat→Value,aS=.string (nb N)::zs az 1 2 (.slice (some ⟨0,0,none⟩) (nl N) (nl N)::zs az 4 11 (.int .i64 (nb N).size::.int .i64 i::zs az 17 24 [])):=bF aw;clear aw;have CS:=gl N;conv=>whnf
 refine aI (fun h1=>?_) (fun h1=>?_)
 ·have h1:i < aO N:=by rw [CS] at h1; simpa using h1
  conv=>whnf
  have Ad:=vU (nb N) ((nb N).size - 1 - i);have db:bT (nb N) ((nb N).size - 1 - i)=N / C ^ i % C:=by
   rw [tc (by omega),gN]; congr 3; omega
  obtain ⟨aq,ak⟩:=Tx N i;rw [← hY,← db] at aq;rw [← hY] at ak;have hd:=Sb _ _ _ ak Ad (Nat.mod_lt _ (by omega))
  have bM:al Y (i / 4)+bT (nb N) ((nb N).size - 1 - i)*256 ^ (i % 4) < B:=by
   have J:(bT (nb N) ((nb N).size - 1 - i)+1)*256 ^ (i % 4)≤256*256 ^ (i % 4):=Nat.mul_le_mul_right _ Ad;have h3:256*256 ^ (i % 4)≤B:=by
    have:(256:Nat) ^ (i % 4)≤256 ^ 3:=Nat.pow_le_pow_right (by decide) (by omega)
    have e:(256:Nat) ^ 3=16777216:=rfl;have e2:B=4294967296:=rfl;omega
   rw [Nat.add_mul] at J;omega
  refine .inl ⟨13,[[],[],[1],[0,1,2],[0,1,2,3],[],[],[5,6],[5,6,7],[],[9],[9,10],[5,6,7,8,9,10,11],[0,1,2,3,4,5,6,7,8,9,10,11,12],[0,1,2,3,4,5,6,7,8,9,10,11,12,13],[0,1,2,3,4,5,6,7,8,9,10,11,12,13,14]],by kernel_rfl,?_⟩
  conv=>whnf
  try simp (disch:=omega) only [ax,bH,cZ,dq,b6,dF,di,dH,cU,c0,dh,dn,dj,dy,toNat_cast,au,Nat.zero_add,dE,toNat_0,toNat_1,Nat.sub_zero,dJ,dK,dN,dO,dA,dI,dG,dL]
  refine ⟨⟨by omega,by omega⟩,?_⟩
  conv=>whnf
  refine ⟨by show i / 4 < nl N; omega,?_⟩
  conv=>whnf
  refine ⟨⟨by omega,by omega⟩,?_⟩
  conv=>whnf
  have adV:bT (nb N) ((nb N).size - 1 - i) < 256:=Ad
  try simp (disch:=omega) only [ax,bH,cZ,dq,b6,dF,di,dH,cU,c0,dh,dn,dj,dy,toNat_cast,au,Nat.zero_add,dE,toNat_0,toNat_1,Nat.sub_zero,dJ,dK,dN,dO,dA,dI,dG,dL]
  simp only [Int.natCast_nonneg,decide_true];conv=>whnf
  simp only [hd];refine ⟨⟨by omega,by omega⟩,?_⟩
  conv=>whnf
  refine ⟨by show i / 4 < nl N; omega,?_⟩
  conv=>whnf
  try simp (disch:=omega) only [ax,bH,cZ,dq,b6,dF,di,dH,cU,c0,dh,dn,dj,dy,toNat_cast,au,Nat.zero_add,dE,toNat_0,toNat_1,Nat.sub_zero,dJ,dK,dN,dO,dA,dI,dG,dL]
  rw [fg bM,aq];refine .inr ⟨[0],[0,3,15,16],?_⟩;conv=>whnf
  intro _;conv=>whnf
  refine ⟨_,?_,i+1,N % C ^ (i+1),(.aa (.sk 2 (.aa (.sk 11 (.aa (.aa (.sk 24 .nil rfl))) rfl)) rfl)),rfl,rfl,?_⟩
  ·omega
  ·exact ⟨by omega,rfl⟩
 ·have h1:i=aO N:=by
   have h1:¬ i < aO N:=by rw [CS] at h1; simpa using h1
   omega
  subst h1;have hYN:Y=ab s:=by rw [hY,hN,Nat.mod_eq_of_lt (kP N)]
  conv=>whnf
  refine ⟨0,?_⟩;conv=>whnf
  rw [hYN,hN];refine ⟨⟨rfl,aP.aY (fun h=>by cases h) (fun r hr=>rfl)⟩,_,rfl,?_⟩
  rw [hN];exact .cap _ _ _ rfl
open Go Go.Ae
theorem VE:c7 Tryz.prog 162 yA:=by
 refine dR C4 aK Tryz.func162 (enters_of Tryz.func162 (by kernel_rfl) rfl) ?_ ?_ ?_
 ·intro i b hb;cases i with
  | none=>simp [yA,LV.aj] at hb
  | some i=>simp [yA,LV.aj] at hb; rw [hb]; rfl
 ·intro i b hb; simp [yA] at hb
 intro i hp;cases i with
 | none =>
  conv=>whnf
  refine .inr ⟨1,?_⟩;conv=>whnf
  refine ⟨⟨#[]⟩,rfl,Nat.zero_le _,?_⟩;conv=>whnf
  exact ⟨_,rfl,.refl _⟩
 | some i =>
  obtain ⟨n,N,c⟩:=i;have hp:N < 4294967296 ^ n∧n≤274877906944:=hp;conv=>whnf
  refine .inl ⟨fun mm tz hz=>∃ (i:Nat) (out:Value) (hp:ay),bt (some (.slice (some ⟨0,0,none⟩) n c)::aC 2 (some (out)::some (.int .i64 (IntKind.i64.wrap ((i:Int) - 1)))::aC 36 [])) tz∧hz=hp∧i=mm∧(i≤n∧((out=.slice none 0 0∧hp=[some (.flat false n 1 (bk N))]∧i=n)∨(∃ m g,out=.slice (some ⟨1,0,none⟩) m aJ∧hp=[some (.flat false n 1 (bk N)),some (.flat true m 1 g)]∧m=4*(n - i)∧∀ r,r < m→g r=[.int .u8 ((N / B ^ i / C ^ (m - 1 - r) % C:Nat):Int)]))),.inl ⟨_,n,.slice none 0 0,[some (.flat false n 1 (bk N))],(.aa (.sk 2 (.aa (.aa (.sk 36 .nil rfl))) rfl)),rfl,rfl,?_⟩,?_⟩
  ·exact ⟨Nat.le_refl _,.inl ⟨rfl,rfl,rfl⟩⟩
  rintro mm aS _ ⟨i,out,hp,aw,rfl,rfl,⟨hi,h⟩⟩
  obtain ⟨az,rfl⟩:∃ az:Nat→Value,aS=.slice (some ⟨0,0,none⟩) n c::zs az 1 2 (out::.int .i64 (IntKind.i64.wrap ((i:Int) - 1))::zs az 5 36 []):=bF aw;clear aw;rcases h with ⟨rfl,rfl,rfl⟩ | ⟨m,g,rfl,rfl,rfl,hg⟩
  ·-- nothing written yet
   conv=>whnf
   refine aI (fun h1=>?_) (fun h1=>?_)
   ·have h1:0 < i:=by
     rcases Nat.eq_zero_or_pos i with h | h
     ·subst h; revert h1; decide
     ·exact h
    have hl:=cD N (i - 1);have hl:al N (i - 1) < 4294967296:=hl;have ei:IntKind.i64.wrap ((i:Int) - 1)=((i - 1:Nat):Int):=by rw [ax (by omega) (by omega)]; omega
    simp only [ei];conv=>whnf
    refine .inl ⟨25,[[],[],[],[1,2],[1,2,3],[1,2,3,4],[1,2,3,4,5],[],[],[7,8],[7,8,9],[7,8,9,10],[7,8,9,10,11],[],[],[13,14],[13,14,15],[13,14,15,16],[13,14,15,16,17],[],[],[19,20],[19,20,21],[19,20,21,22],[1,2,3,4,5,6,7,8,9,10,11,12,13,14,15,16,17,18,19,20,21,22,23],[0,1,2,3,4,5,6,7,8,9,10,11,12,13,14,15,16,17,18,19,20,21,22,23,24],[0,1,2,3,4,5,6,7,8,9,10,11,12,13,14,15,16,17,18,19,20,21,22,23,24,25]],by kernel_rfl,?_⟩
    conv=>whnf
    refine ⟨⟨by omega,by omega⟩,?_⟩
    simp only [toNat_cast,au,Nat.zero_add];conv=>whnf
    refine ⟨by omega,?_⟩
    conv=>whnf
    refine ⟨⟨by omega,by omega⟩,?_⟩
    simp only [toNat_cast,au,Nat.zero_add];conv=>whnf
    refine ⟨by omega,?_⟩
    conv=>whnf
    refine ⟨⟨by omega,by omega⟩,?_⟩
    simp only [toNat_cast,au,Nat.zero_add];conv=>whnf
    refine ⟨by omega,?_⟩
    conv=>whnf
    refine ⟨⟨by omega,by omega⟩,?_⟩
    simp only [toNat_cast,au,Nat.zero_add];conv=>whnf
    refine ⟨by omega,?_⟩
    conv=>whnf
    simp only [dn,dh,c0,On,Oo,O4,O5];refine ⟨by decide,?_⟩
    conv=>whnf
    refine .inr ⟨[0,26],[0,3,4],?_⟩;conv=>whnf
    intro _;conv=>whnf
    refine ⟨_,?_,i - 1,.slice (some ⟨1,0,none⟩) 4 aJ,[some (.flat false i 1 (bk N)),some (.flat true 4 1 _)],(.aa (.sk 2 (.aa (.aa (.sk 36 .nil rfl))) rfl)),rfl,rfl,?_⟩
    ·omega
    ·refine ⟨by omega,.inr ⟨4,_,rfl,rfl,by omega,fun r hr=>?_⟩⟩
     have:=KL (N:=N) (i:=i) (m:=0) (g:=fun _=>[]) h1 (fun r hr=>absurd hr (by omega)) rfl rfl rfl rfl r (by omega)
     rw [fV (by omega),Nat.sub_zero] at this
     rw [this]
   ·have h1:i=0:=by
     rcases Nat.eq_zero_or_pos i with h | h
     ·exact h
     ·rw [ax (by omega) (by omega)] at h1
      simp at h1; omega
    subst h1;have hN:N=0:=by simpa using hp.1
    subst hN;conv=>whnf
    refine ⟨⟨#[]⟩,rfl,Nat.zero_le _,?_⟩;conv=>whnf
    exact ⟨_,rfl,.refl _⟩
  ·-- behind the first limb
   conv=>whnf
   refine aI (fun h1=>?_) (fun h1=>?_)
   ·have h1:0 < i:=by
     rcases Nat.eq_zero_or_pos i with h | h
     ·subst h; revert h1; decide
     ·exact h
    have hl:=cD N (i - 1);have hl:al N (i - 1) < 4294967296:=hl;have ei:IntKind.i64.wrap ((i:Int) - 1)=((i - 1:Nat):Int):=by rw [ax (by omega) (by omega)]; omega
    simp only [ei];conv=>whnf
    refine .inl ⟨25,[[],[],[],[1,2],[1,2,3],[1,2,3,4],[1,2,3,4,5],[],[],[7,8],[7,8,9],[7,8,9,10],[7,8,9,10,11],[],[],[13,14],[13,14,15],[13,14,15,16],[13,14,15,16,17],[],[],[19,20],[19,20,21],[19,20,21,22],[1,2,3,4,5,6,7,8,9,10,11,12,13,14,15,16,17,18,19,20,21,22,23],[0,1,2,3,4,5,6,7,8,9,10,11,12,13,14,15,16,17,18,19,20,21,22,23,24],[0,1,2,3,4,5,6,7,8,9,10,11,12,13,14,15,16,17,18,19,20,21,22,23,24,25]],by kernel_rfl,?_⟩
    conv=>whnf
    refine ⟨⟨by omega,by omega⟩,?_⟩
    simp only [toNat_cast,au,Nat.zero_add];conv=>whnf
    refine ⟨by omega,?_⟩
    conv=>whnf
    refine ⟨⟨by omega,by omega⟩,?_⟩
    simp only [toNat_cast,au,Nat.zero_add];conv=>whnf
    refine ⟨by omega,?_⟩
    conv=>whnf
    refine ⟨⟨by omega,by omega⟩,?_⟩
    simp only [toNat_cast,au,Nat.zero_add];conv=>whnf
    refine ⟨by omega,?_⟩
    conv=>whnf
    refine ⟨⟨by omega,by omega⟩,?_⟩
    simp only [toNat_cast,au,Nat.zero_add];conv=>whnf
    refine ⟨by omega,?_⟩
    conv=>whnf
    simp only [dn,dh,c0,On,Oo,O4,O5];refine ⟨⟨by decide,rfl,?_⟩,?_⟩
    ·show (4*(n - i)+4)*1≤_
     omega
    conv=>whnf
    refine ⟨[0,4],?_⟩;conv=>whnf
    intro _;conv=>whnf
    refine .inr ⟨[0,1],[0,3,4],?_⟩;conv=>whnf
    intro _;conv=>whnf
    refine ⟨_,?_,i - 1,.slice (some ⟨1,0,none⟩) (4*(n - i)+4) aJ,[some (.flat false n 1 (bk N)),some (.flat true (4*(n - i)+4) 1 _)],(.aa (.sk 2 (.aa (.aa (.sk 36 .nil rfl))) rfl)),rfl,rfl,?_⟩
    ·omega
    ·exact ⟨by omega,.inr ⟨4*(n - i)+4,_,rfl,rfl,by omega,KL h1 hg rfl rfl rfl rfl⟩⟩
   ·have h1:i=0:=by
     rcases Nat.eq_zero_or_pos i with h | h
     ·exact h
     ·rw [ax (by omega) (by omega)] at h1
      simp at h1; omega
    subst h1;rw [Nat.pow_zero,Nat.div_one] at hg;rw [Nat.sub_zero] at hg;have ak:N < C ^ (4*n):=by rw [← CV]; exact hp.1
    by_cases hn:n=0
    ·subst hn;have hN:N=0:=by simpa using hp.1
     subst hN;conv=>whnf
     refine ⟨⟨#[]⟩,rfl,Nat.zero_le _,?_⟩;conv=>whnf
     exact ⟨_,rfl,.refl _⟩
    ·obtain ⟨m,hm⟩:∃ m,4*n=m+1:=⟨4*n - 1,by omega⟩
     rw [hm] at hg ak;rw [Nat.sub_zero,hm];have hs:=vL hg;conv=>whnf
     refine ⟨⟨by show 0+(m+1)≤m+1; omega,fun r hr=>⟨_,by show g (0+r)=_; rw [Nat.zero_add]; exact hg r hr⟩⟩,?_⟩
     rw [show (ah.flat true (m+1) 1 g).row=g from rfl,hs]
     conv=>whnf
     refine ⟨be (m+1) N,rfl,?_,?_⟩
     ·show (be (m+1) N).size≤_
      rw [wo]; omega
     conv=>whnf
     rw [F5,Nat.mod_eq_of_lt ak];exact ⟨_,rfl,.refl _⟩
def Eb:Env:={ tt:=tt,eqs:=[],Φ:=fun g=>match g with
 | 165=>some (.p ko)
 | 161=>some (.q rO)
 | 162=>some (.q yA)
 | 135=>some (.q uh)
 | _=>none }
theorem Pg:EnvOk Tryz.prog Eb:=⟨uu,fun t h=>by simp [Eb] at h,(fun g S h=>by
 simp only [Eb] at h
 split at h
 ·cases h; exact FO
 ·cases h; exact BO
 ·cases h; exact VE
 ·cases h; exact BP
 ·cases h),fun g F h=>by simp [Eb] at h⟩
theorem Gk:c7 Tryz.prog 131 ui:=by
 refine dR Pg aK Tryz.func131 (enters_of Tryz.func131 (by kernel_rfl) rfl) ?_ ?_ ?_
 ·intro i b hb;obtain ⟨neg,i⟩:=i;cases i with
  | none=>simp [ui,LV.aj] at hb
  | some i=>simp [ui,LV.aj] at hb; rw [hb]; rfl
 ·intro i b hb; simp [ui] at hb
 intro ⟨neg,i⟩ hp;have fin:∀ N:Nat,(!(nb N).toList == (⟨#[]⟩:ByteArray).toList)=(N != 0):=by
  intro N;rw [pH];by_cases h:N=0
  ·subst h; simp [pA]
  ·simp [h,JV]
 cases i with
 | none =>
  cases neg
  all_goals
   conv=>whnf
   refine ⟨none,[],rfl,trivial,?_⟩;conv=>whnf
   refine ⟨_,rfl,?_⟩;conv=>whnf
   refine ⟨none,[],rfl,trivial,?_⟩;conv=>whnf
   refine ⟨_,rfl,?_⟩;conv=>whnf
   simp only [LV.num,fin];exact ⟨_,rfl,.refl _⟩
 | some i =>
  obtain ⟨n,N,c⟩:=i;have hp:N < 4294967296 ^ n∧n≤274877906944:=hp;have bZ:=jt hp.1;cases neg
  all_goals
   conv=>whnf
   refine ⟨some (n,N,c),[0],rfl,hp,?_⟩;conv=>whnf
   refine ⟨aP.aY (fun h=>h) (fun r hr=>rfl),?_⟩
   conv=>whnf
   refine ⟨_,rfl,?_⟩;conv=>whnf
   refine ⟨some (nl N,N,c),[0],rfl,⟨bR N,by omega⟩,?_⟩
   conv=>whnf
   refine ⟨?_,?_⟩
   ·exact ⟨(fun h=>by cases h),rfl,bZ,fun _ _=>rfl,fun r hr v hv=>dp (l:=bk N r) rfl v hv⟩
   conv=>whnf
   refine ⟨_,rfl,?_⟩;conv=>whnf
   simp only [LV.num,fin];exact ⟨_,rfl,.refl _⟩
open Go Go.Ae
theorem EG:c7 Tryz.prog 136 wa:=by
 refine dR Pg aK Tryz.func136 (enters_of Tryz.func136 (by kernel_rfl) rfl) ?_ ?_ ?_
 ·intro i b hb; simp [wa,jW] at hb; rcases hb with rfl | rfl <;> rfl
 ·intro i b hb; simp [wa] at hb
 intro ⟨A,ca,D,cd⟩ hp;have hp:nl A≤137438953472∧nl D≤137438953472:=hp;conv=>whnf
 refine aI (fun h=>?_) (fun h=>?_)
 ·have h:nl A≠nl D:=by
   intro e;have e':((nl A:Nat):Int)=((nl D:Nat):Int):=by rw [e]
   simp [e'] at h
  conv=>whnf
  refine aI (fun J=>?_) (fun J=>?_)
  ·have J:nl A < nl D:=by simpa using J
   conv=>whnf
   have:=Kd J;refine ⟨_,rfl,?_⟩;simp only [cH,if_pos this];exact .refl _
  ·have J:nl D < nl A:=by
    have J:¬ nl A < nl D:=by simpa using J
    omega
   conv=>whnf
   have:=Kd J;refine ⟨_,rfl,?_⟩;simp only [cH,if_neg (show ¬ A < D by omega),if_pos this]
   exact .refl _
 ·have h:nl D=nl A:=by
   by_cases e:nl A=nl D
   ·exact e.symm
   ·have e':((nl A:Nat):Int)≠((nl D:Nat):Int):=by omega
    simp [e'] at h
  conv=>whnf
  refine .inl ⟨fun mm tz hz=>∃ (i:Nat),bt (some (.slice (some ⟨0,0,none⟩) (nl A) ca)::some (.slice (some ⟨1,0,none⟩) (nl D) cd)::aC 3 (some (.int .i64 (IntKind.i64.wrap ((i:Int) - 1)))::aC 37 [])) tz∧hz=[some (.flat false (nl A) 1 (bk A)),some (.flat false (nl D) 1 (bk D))]∧i=mm∧(i≤nl A∧A / B ^ i=D / B ^ i),.inl ⟨_,nl A,(.aa (.aa (.sk 3 (.aa (.sk 37 .nil rfl)) rfl))),rfl,rfl,?_⟩,?_⟩
  ·refine ⟨Nat.le_refl _,?_⟩;have h1:=bR A;have J:=bR D;rw [h] at J;rw [Nat.div_eq_of_lt h1,Nat.div_eq_of_lt J]
  rintro mm aS _ ⟨i,aw,rfl,rfl,⟨hi,he⟩⟩
  obtain ⟨az,rfl⟩:∃ az:Nat→Value,aS=.slice (some ⟨0,0,none⟩) (nl A) ca::.slice (some ⟨1,0,none⟩) (nl D) cd::zs az 2 3 (.int .i64 (IntKind.i64.wrap ((i:Int) - 1))::zs az 6 37 []):=bF aw;clear aw;conv=>whnf
  refine aI (fun h1=>?_) (fun h1=>?_)
  ·have h1:0 < i:=by
    rcases Nat.eq_zero_or_pos i with h | h
    ·subst h; revert h1; decide
    ·exact h
   have ei:IntKind.i64.wrap ((i:Int) - 1)=((i - 1:Nat):Int):=by rw [ax (by omega) (by omega)]; omega
   have hA:=pg A (i - 1);have hD:=pg D (i - 1);rw [show i - 1+1=i by omega] at hA hD
   rw [← he] at hD;simp only [ei];conv=>whnf
   refine .inl ⟨8,[[],[],[0,1],[0,1,2],[],[],[4,5],[4,5,6],[0,1,2,3,4,5,6,7],[0,1,2,3,4,5,6,7,8]],by kernel_rfl,?_⟩
   conv=>whnf
   refine ⟨⟨by omega,by omega⟩,?_⟩
   try simp (disch:=omega) only [ax,bH,cZ,dq,b6,dF,di,dH,cU,c0,dh,dn,dj,dy,toNat_cast,au,Nat.zero_add,dE,toNat_0,toNat_1,Nat.sub_zero,dJ,dK,dN,dO,dA,dI,dG,dL]
   conv=>whnf
   refine ⟨by show i - 1 < nl A; omega,?_⟩
   conv=>whnf
   refine ⟨⟨by omega,by omega⟩,?_⟩
   try simp (disch:=omega) only [ax,bH,cZ,dq,b6,dF,di,dH,cU,c0,dh,dn,dj,dy,toNat_cast,au,Nat.zero_add,dE,toNat_0,toNat_1,Nat.sub_zero,dJ,dK,dN,dO,dA,dI,dG,dL]
   conv=>whnf
   refine ⟨by show i - 1 < nl D; omega,?_⟩
   conv=>whnf
   refine aI (fun J=>?_) (fun J=>?_)
   ·have J:al A (i - 1) < al D (i - 1):=by simpa using J
    conv=>whnf
    have ak:A < D:=by
     rcases Nat.lt_or_ge A D with h | h
     ·exact h
     ·have:=Nat.div_le_div_right (c:=B ^ (i - 1)) h;omega
    refine ⟨_,rfl,?_⟩;simp only [cH,if_pos ak];exact .refl _
   ·have J:al D (i - 1)≤al A (i - 1):=by simpa using J
    conv=>whnf
    refine .inl ⟨8,[[],[],[0,1],[0,1,2],[],[],[4,5],[4,5,6],[0,1,2,3,4,5,6,7],[0,1,2,3,4,5,6,7,8]],by kernel_rfl,?_⟩
    conv=>whnf
    refine ⟨⟨by omega,by omega⟩,?_⟩
    try simp (disch:=omega) only [ax,bH,cZ,dq,b6,dF,di,dH,cU,c0,dh,dn,dj,dy,toNat_cast,au,Nat.zero_add,dE,toNat_0,toNat_1,Nat.sub_zero,dJ,dK,dN,dO,dA,dI,dG,dL]
    conv=>whnf
    refine ⟨by show i - 1 < nl A; omega,?_⟩
    conv=>whnf
    refine ⟨⟨by omega,by omega⟩,?_⟩
    try simp (disch:=omega) only [ax,bH,cZ,dq,b6,dF,di,dH,cU,c0,dh,dn,dj,dy,toNat_cast,au,Nat.zero_add,dE,toNat_0,toNat_1,Nat.sub_zero,dJ,dK,dN,dO,dA,dI,dG,dL]
    conv=>whnf
    refine ⟨by show i - 1 < nl D; omega,?_⟩
    conv=>whnf
    refine aI (fun h3=>?_) (fun h3=>?_)
    ·have h3:al D (i - 1) < al A (i - 1):=by simpa using h3
     conv=>whnf
     have ak:D < A:=by
      rcases Nat.lt_or_ge D A with h | h
      ·exact h
      ·have:=Nat.div_le_div_right (c:=B ^ (i - 1)) h;omega
     refine ⟨_,rfl,?_⟩;simp only [cH,if_neg (show ¬ A < D by omega),if_pos ak]
     exact .refl _
    ·have h3:al A (i - 1)≤al D (i - 1):=by simpa using h3
     conv=>whnf
     refine .inr ⟨[0,1],[0,1,5],?_⟩;conv=>whnf
     intro _;conv=>whnf
     refine ⟨_,?_,i - 1,(.aa (.aa (.sk 3 (.aa (.sk 37 .nil rfl)) rfl))),rfl,rfl,?_⟩
     ·omega
     ·refine ⟨by omega,?_⟩
      rw [hA,hD,show al A (i - 1)=al D (i - 1) by omega]
  ·have h1:i=0:=by
    rcases Nat.eq_zero_or_pos i with h | h
    ·exact h
    ·rw [ax (by omega) (by omega)] at h1
     simp at h1; omega
   subst h1;rw [Nat.pow_zero,Nat.div_one,Nat.div_one] at he;conv=>whnf
   refine ⟨_,rfl,?_⟩;simp only [cH,he,Nat.lt_irrefl,if_false];exact .refl _
def Ec:Env:={ tt:=tt,eqs:=[],Φ:=fun g=>match g with
 | 165=>some (.p ko)
 | 161=>some (.q rO)
 | 167=>some (.p kQ)
 | _=>none }
theorem HP:EnvOk Tryz.prog Ec:=⟨uu,fun t h=>by simp [Ec] at h,(fun g S h=>by
 simp only [Ec] at h
 split at h
 ·cases h; exact FO
 ·cases h; exact BO
 ·cases h; exact ML
 ·cases h),fun g F h=>by simp [Ec] at h⟩
theorem VF:c7 Tryz.prog 143 Ca:=by
 refine dR HP aK Tryz.func143 (enters_of Tryz.func143 (by kernel_rfl) rfl) ?_ ?_ ?_
 ·intro i b hb; simp [Ca,jW] at hb; rcases hb with rfl | rfl <;> rfl
 ·intro i b hb; simp [Ca] at hb; rw [← hb]; rfl
 intro ⟨A,ca,D,cd⟩ hp;have hp:(nl A≤137438953472∧nl D≤137438953472)∧D≤A:=hp;have bZ:=kN hp.2;conv=>whnf
 refine ⟨⟨by omega,by omega,by show ((nl A:Nat):Int)*((4:Nat):Int)≤_; omega⟩,?_⟩
 simp only [toNat_cast,sZ];conv=>whnf
 refine .inl ⟨fun mm tz hz=>∃ (i:Nat) (Y:Nat) (b:Nat),bt (some (.slice (some ⟨0,0,none⟩) (nl A) ca)::some (.slice (some ⟨1,0,none⟩) (nl D) cd)::aC 3 (some (.slice (some ⟨2,0,none⟩) (nl A) (nl A))::some (.int .u32 b)::aC 6 (some (.slice (some ⟨0,0,none⟩) (nl A) ca)::some (.int .i64 (nl A))::some (.int .i64 i)::aC 25 []))) tz∧hz=[some (.flat false (nl A) 1 (bk A)),some (.flat false (nl D) 1 (bk D)),some (.flat true (nl A) 1 (bk Y))]∧nl A - i=mm∧(i≤nl A∧b≤1∧Y < B ^ i∧A % B ^ i+b*B ^ i=Y+D % B ^ i),.inl ⟨_,0,0,0,(.aa (.aa (.sk 3 (.aa (.aa (.sk 6 (.aa (.aa (.aa (.sk 25 .nil rfl)))) rfl))) rfl))),rfl,rfl,?_⟩,?_⟩
 ·simp [Nat.mod_one]
 rintro mm aS _ ⟨i,Y,b,aw,rfl,rfl,⟨hi,hb,hY,he⟩⟩
 obtain ⟨az,rfl⟩:∃ az:Nat→Value,aS=.slice (some ⟨0,0,none⟩) (nl A) ca::.slice (some ⟨1,0,none⟩) (nl D) cd::zs az 2 3 (.slice (some ⟨2,0,none⟩) (nl A) (nl A)::.int .u32 b::zs az 7 6 (.slice (some ⟨0,0,none⟩) (nl A) ca::.int .i64 (nl A)::.int .i64 i::zs az 16 25 [])):=bF aw;clear aw;conv=>whnf
 refine aI (fun h1=>?_) (fun h1=>?_)
 ·have h1:i < nl A:=by simpa using h1
  conv=>whnf
  refine ⟨⟨by omega,by omega⟩,?_⟩
  try simp (disch:=omega) only [ax,bH,cZ,dq,b6,dF,di,dH,cU,c0,dh,dn,dj,dy,toNat_cast,au,Nat.zero_add,dE,toNat_0,toNat_1,Nat.sub_zero,dJ,dK,dN,dO,dA,dI,dG,dL]
  conv=>whnf
  refine ⟨by show i < nl A; omega,?_⟩
  conv=>whnf
  have sN:=cD A i;have DA:=cD D i;have cW:∃ d,d=(al A i+2*4294967296 - al D i - b) % 4294967296:=⟨_,rfl⟩;obtain ⟨d,hd⟩:=cW;have dx:d < B:=by rw [hd]; exact Nat.mod_lt _ (by decide)
  have aq:=Sc (b':=if al A i < al D i+b then 1 else 0) hY he (by
   have e:B=4294967296:=rfl
   split <;> omega) dx
  refine aI (fun J=>?_) (fun J=>?_)
  ·have J:i < nl D:=by simpa using J
   conv=>whnf
   refine ⟨⟨by omega,by omega⟩,?_⟩
   try simp (disch:=omega) only [ax,bH,cZ,dq,b6,dF,di,dH,cU,c0,dh,dn,dj,dy,toNat_cast,au,Nat.zero_add,dE,toNat_0,toNat_1,Nat.sub_zero,dJ,dK,dN,dO,dA,dI,dG,dL]
   conv=>whnf
   refine ⟨by show i < nl D; omega,?_⟩
   conv=>whnf
   refine ⟨(al A i,al D i,b),rfl,⟨sN,DA,hb⟩,?_⟩;simp only [kQ,← hd];conv=>whnf
   refine ⟨⟨by omega,by omega⟩,?_⟩
   try simp (disch:=omega) only [ax,bH,cZ,dq,b6,dF,di,dH,cU,c0,dh,dn,dj,dy,toNat_cast,au,Nat.zero_add,dE,toNat_0,toNat_1,Nat.sub_zero,dJ,dK,dN,dO,dA,dI,dG,dL]
   conv=>whnf
   refine ⟨by show i < nl A; omega,?_⟩
   conv=>whnf
   try simp (disch:=omega) only [ax,bH,cZ,dq,b6,dF,di,dH,cU,c0,dh,dn,dj,dy,toNat_cast,au,Nat.zero_add,dE,toNat_0,toNat_1,Nat.sub_zero,dJ,dK,dN,dO,dA,dI,dG,dL]
   rw [fg dx];refine .inl ⟨_,?_,i+1,cB Y i d,if al A i < al D i+b then 1 else 0,(.aa (.aa (.sk 3 (.aa (.aa (.sk 6 (.aa (.aa (.aa (.sk 25 .nil rfl)))) rfl))) rfl))),rfl,rfl,?_⟩
   ·omega
   ·exact ⟨by omega,by split <;> omega,aq.1,aq.2⟩
  ·have J:nl D≤i:=by
    have J:¬ i < nl D:=by simpa using J
    omega
   have h0:=tv (bR D) J;rw [h0] at hd aq;rw [Nat.zero_add] at aq;conv=>whnf
   refine ⟨(al A i,0,b),rfl,⟨sN,(by show 0 < 4294967296; decide),hb⟩,?_⟩
   simp only [kQ,← hd];conv=>whnf
   refine ⟨⟨by omega,by omega⟩,?_⟩
   try simp (disch:=omega) only [ax,bH,cZ,dq,b6,dF,di,dH,cU,c0,dh,dn,dj,dy,toNat_cast,au,Nat.zero_add,dE,toNat_0,toNat_1,Nat.sub_zero,dJ,dK,dN,dO,dA,dI,dG,dL]
   conv=>whnf
   refine ⟨by show i < nl A; omega,?_⟩
   conv=>whnf
   try simp (disch:=omega) only [ax,bH,cZ,dq,b6,dF,di,dH,cU,c0,dh,dn,dj,dy,toNat_cast,au,Nat.zero_add,dE,toNat_0,toNat_1,Nat.sub_zero,dJ,dK,dN,dO,dA,dI,dG,dL]
   rw [fg dx];refine .inl ⟨_,?_,i+1,cB Y i d,if al A i < b then 1 else 0,(.aa (.aa (.sk 3 (.aa (.aa (.sk 6 (.aa (.aa (.aa (.sk 25 .nil rfl)))) rfl))) rfl))),rfl,rfl,?_⟩
   ·omega
   ·exact ⟨by omega,by split <;> omega,aq.1,aq.2⟩
 ·have h1:i=nl A:=by
   have h1:¬ i < nl A:=by simpa using h1
   omega
  subst h1;have DC:Y=A - D∧b=0:=by
   rw [Nat.mod_eq_of_lt (bR A),Nat.mod_eq_of_lt (Nat.lt_of_le_of_lt hp.2 (bR A))] at he;rcases Nat.eq_zero_or_pos b with h | h
   ·subst h; omega
   ·have:b=1:=by omega
    subst this;omega
  conv=>whnf
  refine ⟨some (nl A,Y,nl A),[2],rfl,⟨hY,by omega⟩,?_⟩
  conv=>whnf
  refine ⟨aP.aY (fun h=>by cases h) (fun r hr=>rfl),?_⟩
  conv=>whnf
  refine ⟨_,rfl,?_⟩;conv=>whnf
  refine ⟨2,?_⟩;conv=>whnf
  rw [DC.1];have hle:=kN (show A - D≤A by omega)
  refine ⟨⟨rfl,⟨(fun h=>by cases h),rfl,hle,fun _ _=>rfl,fun r hr v hv=>dp (l:=bk (A - D) r) rfl v hv⟩⟩,_,rfl,?_⟩
  exact .cap _ _ _ rfl
open Go Go.Ae
theorem VG:c7 Tryz.prog 139 Cb:=by
 refine dR HP aK Tryz.func139 (enters_of Tryz.func139 (by kernel_rfl) rfl) ?_ ?_ ?_
 ·intro i b hb; simp [Cb,jW] at hb; rcases hb with rfl | rfl <;> rfl
 ·intro i b hb; simp [Cb] at hb; rw [← hb]; rfl
 intro ⟨A,ca,D,cd⟩ hp;have hp:nl A≤137438953472∧nl D≤137438953472:=hp;conv=>whnf
 have e1:IntKind.i64.wrap (((nl A:Nat):Int)+((nl D:Nat):Int))=((nl A+nl D:Nat):Int):=by rw [ax (by omega) (by omega)]; omega
 simp only [e1];refine ⟨⟨by omega,by omega,by show ((nl A+nl D:Nat):Int)*((4:Nat):Int)≤_; omega⟩,?_⟩
 simp only [toNat_cast,sZ];conv=>whnf
 refine .inl ⟨fun mm tz hz=>∃ (i:Nat) (Y:Nat),bt (some (.slice (some ⟨0,0,none⟩) (nl A) ca)::some (.slice (some ⟨1,0,none⟩) (nl D) cd)::aC 3 (some (.slice (some ⟨2,0,none⟩) (nl A+nl D) (nl A+nl D))::aC 11 (some (.slice (some ⟨0,0,none⟩) (nl A) ca)::some (.int .i64 (nl A))::some (.int .i64 i)::aC 47 []))) tz∧hz=[some (.flat false (nl A) 1 (bk A)),some (.flat false (nl D) 1 (bk D)),some (.flat true (nl A+nl D) 1 (bk Y))]∧nl A - i=mm∧(i≤nl A∧Y=A % B ^ i*D),.inl ⟨_,0,0,(.aa (.aa (.sk 3 (.aa (.sk 11 (.aa (.aa (.aa (.sk 47 .nil rfl)))) rfl)) rfl))),rfl,rfl,?_⟩,?_⟩
 ·exact ⟨Nat.zero_le _,by simp [Nat.mod_one]⟩
 rintro mm aS _ ⟨i,Y,aw,rfl,rfl,⟨hi,hY⟩⟩
 obtain ⟨az,rfl⟩:∃ az:Nat→Value,aS=.slice (some ⟨0,0,none⟩) (nl A) ca::.slice (some ⟨1,0,none⟩) (nl D) cd::zs az 2 3 (.slice (some ⟨2,0,none⟩) (nl A+nl D) (nl A+nl D)::zs az 6 11 (.slice (some ⟨0,0,none⟩) (nl A) ca::.int .i64 (nl A)::.int .i64 i::zs az 20 47 [])):=bF aw;clear aw;conv=>whnf
 refine aI (fun h1=>?_) (fun h1=>?_)
 ·have h1:i < nl A:=by simpa using h1
  have ads:Y < B ^ (i+nl D):=by
   rw [hY,Nat.pow_add];exact Nat.mul_lt_mul_of_lt_of_le (Nat.mod_lt _ (dM i)) (Nat.le_of_lt (bR D)) (dM _)
  conv=>whnf
  refine ⟨⟨by omega,by omega⟩,?_⟩
  try simp (disch:=omega) only [ax,bH,cZ,dq,b6,dF,di,dH,cU,c0,dh,dn,dj,dy,toNat_cast,au,Nat.zero_add,dE,toNat_0,toNat_1,Nat.sub_zero,dJ,dK,dN,dO,dA,dI,dG,dL]
  conv=>whnf
  refine ⟨by show i < nl A; omega,?_⟩
  conv=>whnf
  refine .inl ⟨fun mm tz hz=>∃ (k:Nat) (Z:Nat) (c:Nat),bt (some (.slice (some ⟨0,0,none⟩) (nl A) ca)::some (.slice (some ⟨1,0,none⟩) (nl D) cd)::aC 3 (some (.slice (some ⟨2,0,none⟩) (nl A+nl D) (nl A+nl D))::some (.int .i64 i)::some (.int .u32 (al A i))::some (.int .u64 c)::aC 8 (some (.slice (some ⟨0,0,none⟩) (nl A) ca)::some (.int .i64 (nl A))::some (.int .i64 i)::aC 4 (some (.slice (some ⟨1,0,none⟩) (nl D) cd)::some (.int .i64 (nl D))::some (.int .i64 k)::aC 40 [])))) tz∧hz=[some (.flat false (nl A) 1 (bk A)),some (.flat false (nl D) 1 (bk D)),some (.flat true (nl A+nl D) 1 (bk Z))]∧nl D - k=mm∧(k≤nl D∧c < B∧Z < B ^ (i+nl D)∧Z+c*B ^ (i+k)=Y+al A i*(D % B ^ k)*B ^ i),.inl ⟨_,0,Y,0,(.aa (.aa (.sk 3 (.aa (.aa (.aa (.aa (.sk 8 (.aa (.aa (.aa (.sk 4 (.aa (.aa (.aa (.sk 40 .nil rfl)))) rfl)))) rfl))))) rfl))),rfl,rfl,?_⟩,?_⟩
  ·exact ⟨Nat.zero_le _,by decide,ads,by simp [Nat.mod_one]⟩
  rintro mm aS _ ⟨k,Z,c,aw,rfl,rfl,⟨hk,hc,hZ,he⟩⟩
  obtain ⟨az,rfl⟩:∃ az:Nat→Value,aS=.slice (some ⟨0,0,none⟩) (nl A) ca::.slice (some ⟨1,0,none⟩) (nl D) cd::zs az 2 3 (.slice (some ⟨2,0,none⟩) (nl A+nl D) (nl A+nl D)::.int .i64 i::.int .u32 (al A i)::.int .u64 c::zs az 9 8 (.slice (some ⟨0,0,none⟩) (nl A) ca::.int .i64 (nl A)::.int .i64 i::zs az 20 4 (.slice (some ⟨1,0,none⟩) (nl D) cd::.int .i64 (nl D)::.int .i64 k::zs az 27 40 []))):=bF aw;clear aw;have sN:=cD A i;have DA:=cD D k;have Qb:=cD Z (i+k);conv=>whnf
  refine aI (fun J=>?_) (fun J=>?_)
  ·have J:k < nl D:=by simpa using J
   obtain ⟨t,ht⟩:∃ t,t=c+(al A i*al D k+al Z (i+k)):=⟨_,rfl⟩;have aq:=Sd he ht;have adt:=Kf hc sN DA Qb ht;conv=>whnf
   refine ⟨⟨by omega,by omega⟩,?_⟩
   try simp (disch:=omega) only [ax,bH,cZ,dq,b6,dF,di,dH,cU,c0,dh,dn,dj,dy,toNat_cast,au,Nat.zero_add,dE,toNat_0,toNat_1,Nat.sub_zero,dJ,dK,dN,dO,dA,dI,dG,dL]
   conv=>whnf
   refine ⟨by show k < nl D; omega,?_⟩
   conv=>whnf
   have e2:IntKind.i64.wrap (((i:Nat):Int)+((k:Nat):Int))=((i+k:Nat):Int):=by rw [ax (by omega) (by omega)]; omega
   have hv:=Tz hc sN DA Qb ht;have gJ:=Nat.mod_lt t (show 0 < B by decide)
   simp only [e2,toNat_cast,au,Nat.zero_add];refine ⟨⟨by omega,by omega⟩,?_⟩
   conv=>whnf
   refine ⟨by show i+k < nl A+nl D; omega,?_⟩
   conv=>whnf
   simp only [hv,e2,dS];refine ⟨⟨by omega,by omega⟩,?_⟩
   simp only [toNat_cast,au,Nat.zero_add];conv=>whnf
   refine ⟨by show i+k < nl A+nl D; omega,?_⟩
   conv=>whnf
   simp only [b6,ju];rw [fg gJ];have e3:IntKind.i64.wrap (((k:Nat):Int)+1)=((k+1:Nat):Int):=by rw [ax (by omega) (by omega)]; rfl
   simp only [e3];refine .inl ⟨_,?_,k+1,cB Z (i+k) (t % B),t / B,(.aa (.aa (.sk 3 (.aa (.aa (.aa (.aa (.sk 8 (.aa (.aa (.aa (.sk 4 (.aa (.aa (.aa (.sk 40 .nil rfl)))) rfl)))) rfl))))) rfl))),rfl,rfl,?_⟩
   ·omega
   ·exact ⟨by omega,adt.1,lM hZ (by omega) gJ,aq⟩
  ·have J:k=nl D:=by
    have J:¬ k < nl D:=by simpa using J
    omega
   subst J;have aW:=Ty hY (bR D) hZ he;have e2:IntKind.i64.wrap (((i:Nat):Int)+((nl D:Nat):Int))=((i+nl D:Nat):Int):=by rw [ax (by omega) (by omega)]; omega
   conv=>whnf
   simp only [e2,dS,Nat.mod_eq_of_lt hc];refine ⟨⟨by omega,by omega⟩,?_⟩
   simp only [toNat_cast,au,Nat.zero_add];conv=>whnf
   refine ⟨by show i+nl D < nl A+nl D; omega,?_⟩
   conv=>whnf
   rw [fg hc]
   try simp (disch:=omega) only [ax,bH,cZ,dq,b6,dF,di,dH,cU,c0,dh,dn,dj,dy,toNat_cast,au,Nat.zero_add,dE,toNat_0,toNat_1,Nat.sub_zero,dJ,dK,dN,dO,dA,dI,dG,dL]
   skip
   refine .inl ⟨_,?_,i+1,cB Z (i+nl D) c,(.aa (.aa (.sk 3 (.aa (.sk 11 (.aa (.aa (.aa (.sk 47 .nil rfl)))) rfl)) rfl))),rfl,rfl,?_⟩
   ·omega
   ·exact ⟨by omega,aW⟩
 ·have h1:i=nl A:=by
   have h1:¬ i < nl A:=by simpa using h1
   omega
  subst h1;rw [Nat.mod_eq_of_lt (bR A)] at hY;have ak:Y < B ^ (nl A+nl D):=by
   rw [hY,Nat.pow_add];exact Nat.mul_lt_mul_of_lt_of_le (bR A) (Nat.le_of_lt (bR D)) (dM _)
  conv=>whnf
  refine ⟨some (nl A+nl D,Y,nl A+nl D),[2],rfl,⟨ak,by omega⟩,?_⟩
  conv=>whnf
  refine ⟨aP.aY (fun h=>by cases h) (fun r hr=>rfl),?_⟩
  conv=>whnf
  refine ⟨_,rfl,?_⟩;conv=>whnf
  refine ⟨2,?_⟩;conv=>whnf
  have hle:=jt ak;subst hY;refine ⟨⟨rfl,⟨(fun h=>by cases h),rfl,hle,fun _ _=>rfl,fun r hr v hv=>dp (l:=bk (A*D) r) rfl v hv⟩⟩,_,rfl,?_⟩
  exact .cap _ _ _ rfl
open Go Go.Ae
theorem Yk:c7 Tryz.prog 142 Cv:=by
 refine dR HP aK Tryz.func142 (enters_of Tryz.func142 (by kernel_rfl) rfl) ?_ ?_ ?_
 ·intro i b hb; simp [Cv,jW] at hb; rcases hb with rfl | rfl <;> rfl
 ·intro i b hb; simp [Cv] at hb; rw [← hb]; rfl
 intro ⟨A,ca,D,cd⟩ hp;have hp:nl A≤137438953472∧nl D≤137438953472:=hp;conv=>whnf
 refine aI (fun h0=>?_) (fun h0=>?_)
 ·have h0:(nl A < nl D):=by simpa using h0
  have qJ:nl A≤nl D:=by omega
  have eS:A+D=(D+A):=by omega
  conv=>whnf
  have e1:IntKind.i64.wrap (((nl D:Nat):Int)+1)=((nl D+1:Nat):Int):=by rw [ax (by omega) (by omega)]; rfl
  simp only [e1];have fw:decide (nl D+1=aJ)=false:=decide_eq_false (by unfold aJ; omega)
  refine ⟨⟨by omega,by omega,by show ((nl D+1:Nat):Int)*((4:Nat):Int)≤_; omega⟩,?_⟩
  simp only [toNat_cast,toNat_0];conv=>whnf
  refine .inl ⟨fun mm tz hz=>∃ (i:Nat) (Z:Nat) (c:Nat) (g:Nat→List Value),bt (some (.slice (some ⟨1,0,none⟩) (nl D) cd)::some (.slice (some ⟨0,0,none⟩) (nl A) ca)::aC 3 (some (.slice (some ⟨2,0,none⟩) i (nl D+1))::some (.int .u64 c)::aC 13 (some (.slice (some ⟨1,0,none⟩) (nl D) cd)::some (.int .i64 (nl D))::some (.int .i64 i)::aC 33 []))) tz∧hz=[some (.flat false (nl A) 1 (bk A)),some (.flat false (nl D) 1 (bk D)),some (.flat true i 1 g)]∧nl D - i=mm∧(i≤nl D∧c≤1∧Z < B ^ i∧Z+c*B ^ i=D % B ^ i+A % B ^ i∧∀ r,r < i→g r=bk Z r),.inl ⟨_,0,0,0,_,(.aa (.aa (.sk 3 (.aa (.aa (.sk 13 (.aa (.aa (.aa (.sk 33 .nil rfl)))) rfl))) rfl))),rfl,rfl,?_⟩,?_⟩
  ·exact ⟨Nat.zero_le _,by decide,by simp,by simp [Nat.mod_one],fun r hr=>absurd hr (by omega)⟩
  rintro mm aS _ ⟨i,Z,c,g,aw,rfl,rfl,⟨hi,hc,hZ,he,hg⟩⟩
  obtain ⟨az,rfl⟩:∃ az:Nat→Value,aS=.slice (some ⟨1,0,none⟩) (nl D) cd::.slice (some ⟨0,0,none⟩) (nl A) ca::zs az 2 3 (.slice (some ⟨2,0,none⟩) i (nl D+1)::.int .u64 c::zs az 7 13 (.slice (some ⟨1,0,none⟩) (nl D) cd::.int .i64 (nl D)::.int .i64 i::zs az 23 33 [])):=bF aw;clear aw;conv=>whnf
  refine aI (fun h1=>?_) (fun h1=>?_)
  ·have h1:i < nl D:=by simpa using h1
   conv=>whnf
   refine ⟨⟨by omega,by omega⟩,?_⟩
   try simp (disch:=omega) only [ax,bH,cZ,dq,b6,dF,di,dH,cU,c0,dh,dn,dj,dy,toNat_cast,au,Nat.zero_add,dE,toNat_0,toNat_1,Nat.sub_zero,dJ,dK,dN,dO,dA,dI,dG,dL]
   conv=>whnf
   refine ⟨by show i < nl D; omega,?_⟩
   conv=>whnf
   have hlX:al D i < 4294967296:=cD D i;have hlY:al A i < 4294967296:=cD A i;obtain ⟨t,ht⟩:∃ t,t=c+al D i+al A i:=⟨_,rfl⟩;have aq:=Lv he ht;have gJ:t % B < B:=Nat.mod_lt t (show 0 < B by decide)
   have fo:t / B≤1:=by
    have e:B=4294967296:=rfl;rw [e]; omega
   have I6:=Bl (a:=c) (b:=al D i) (by omega) (by omega)
   have Af:=Bl (a:=c+al D i) (b:=al A i) (by omega) (by omega)
   rw [← ht] at Af;have e3:IntKind.i64.wrap (((i:Nat):Int)+1)=((i+1:Nat):Int):=by rw [ax (by omega) (by omega)]; rfl
   have aW:=BF hZ gJ hg;simp only [I6];refine aI (fun J=>?_) (fun J=>?_)
   ·have J:i < nl A:=by simpa using J
    conv=>whnf
    refine ⟨⟨by omega,by omega⟩,?_⟩
    try simp (disch:=omega) only [ax,bH,cZ,dq,b6,dF,di,dH,cU,c0,dh,dn,dj,dy,toNat_cast,au,Nat.zero_add,dE,toNat_0,toNat_1,Nat.sub_zero,dJ,dK,dN,dO,dA,dI,dG,dL]
    conv=>whnf
    refine ⟨by show i < nl A; omega,?_⟩
    conv=>whnf
    simp only [Af,dS];rw [fw];conv=>whnf
    refine mB ?_ ?_
    ·rw [Nat.ble_eq]; show i+1≤nl D+1; omega
    refine ⟨by show 0+i=i; omega,?_⟩
    conv=>whnf
    simp only [b6,ju,e3];refine .inr ⟨[0,1,2],[0,1,5,6,20,21,22],?_⟩;conv=>whnf
    intro _;conv=>whnf
    refine ⟨_,?_,i+1,Z+t % B*B ^ i,t / B,_,(.aa (.aa (.sk 3 (.aa (.aa (.sk 13 (.aa (.aa (.aa (.sk 33 .nil rfl)))) rfl))) rfl))),rfl,rfl,?_⟩
    ·omega
    ·exact ⟨by omega,fo,vM hZ gJ,aq,aW⟩
   ·have J:nl A≤i:=by
     have J:¬ i < nl A:=by simpa using J
     omega
    have h0:=tv (bR A) J;have e4:c+al D i=t:=by omega
    conv=>whnf
    simp only [e4,dS];rw [fw];conv=>whnf
    refine mB ?_ ?_
    ·rw [Nat.ble_eq]; show i+1≤nl D+1; omega
    refine ⟨by show 0+i=i; omega,?_⟩
    conv=>whnf
    simp only [b6,ju,e3];refine .inr ⟨[0,1,2],[0,1,5,6,20,21,22],?_⟩;conv=>whnf
    intro _;conv=>whnf
    refine ⟨_,?_,i+1,Z+t % B*B ^ i,t / B,_,(.aa (.aa (.sk 3 (.aa (.aa (.sk 13 (.aa (.aa (.aa (.sk 33 .nil rfl)))) rfl))) rfl))),rfl,rfl,?_⟩
    ·omega
    ·exact ⟨by omega,fo,vM hZ gJ,aq,aW⟩
  ·have h1:i=nl D:=by
    have h1:¬ i < nl D:=by simpa using h1
    omega
   subst h1;rw [Nat.mod_eq_of_lt (bR D),Nat.mod_eq_of_lt (Nat.lt_of_lt_of_le (bR A) (Nat.pow_le_pow_right (by decide) qJ))] at he
   have vk:c < B:=by have e:B=4294967296:=rfl; omega
   have aW:=BF hZ vk hg;have ak:=vM hZ vk;rw [he] at ak aW;conv=>whnf
   simp only [dS,Nat.mod_eq_of_lt vk];rw [fw];conv=>whnf
   refine mB ?_ ?_
   ·rw [Nat.ble_eq]; show nl D+1≤nl D+1; omega
   refine ⟨by show 0+nl D=nl D; omega,?_⟩
   conv=>whnf
   refine ⟨some (nl D+1,D+A,nl D+1),[2],rfl,⟨ak,by omega⟩,?_⟩
   conv=>whnf
   refine ⟨⟨(fun h=>by cases h),rfl,Nat.le_refl _,fun r hr=>(aW r hr).symm,fun r hr v hv=>dp (l:=bk (D+A) r) rfl v hv⟩,?_⟩
   conv=>whnf
   refine ⟨_,rfl,?_⟩;conv=>whnf
   refine ⟨2,?_⟩;conv=>whnf
   have hle:=jt ak;show (_∧aP (dB (A+D)) _)∧∃ v',cL _ 3 (kD 2 (A+D))=some v'∧_
   rw [eS];refine ⟨⟨rfl,⟨(fun h=>by cases h),rfl,hle,fun r hr=>(aW r (Nat.lt_of_lt_of_le hr hle)).symm,fun r hr v hv=>dp (l:=bk (D+A) r) rfl v hv⟩⟩,_,rfl,?_⟩
   exact .cap _ _ _ rfl
 ·have h0:(¬ nl A < nl D):=by simpa using h0
  have qJ:nl D≤nl A:=by omega
  have eS:A+D=(A+D):=by omega
  conv=>whnf
  have e1:IntKind.i64.wrap (((nl A:Nat):Int)+1)=((nl A+1:Nat):Int):=by rw [ax (by omega) (by omega)]; rfl
  simp only [e1];have fw:decide (nl A+1=aJ)=false:=decide_eq_false (by unfold aJ; omega)
  refine ⟨⟨by omega,by omega,by show ((nl A+1:Nat):Int)*((4:Nat):Int)≤_; omega⟩,?_⟩
  simp only [toNat_cast,toNat_0];conv=>whnf
  refine .inl ⟨fun mm tz hz=>∃ (i:Nat) (Z:Nat) (c:Nat) (g:Nat→List Value),bt (some (.slice (some ⟨0,0,none⟩) (nl A) ca)::some (.slice (some ⟨1,0,none⟩) (nl D) cd)::aC 3 (some (.slice (some ⟨2,0,none⟩) i (nl A+1))::some (.int .u64 c)::aC 13 (some (.slice (some ⟨0,0,none⟩) (nl A) ca)::some (.int .i64 (nl A))::some (.int .i64 i)::aC 33 []))) tz∧hz=[some (.flat false (nl A) 1 (bk A)),some (.flat false (nl D) 1 (bk D)),some (.flat true i 1 g)]∧nl A - i=mm∧(i≤nl A∧c≤1∧Z < B ^ i∧Z+c*B ^ i=A % B ^ i+D % B ^ i∧∀ r,r < i→g r=bk Z r),.inl ⟨_,0,0,0,_,(.aa (.aa (.sk 3 (.aa (.aa (.sk 13 (.aa (.aa (.aa (.sk 33 .nil rfl)))) rfl))) rfl))),rfl,rfl,?_⟩,?_⟩
  ·exact ⟨Nat.zero_le _,by decide,by simp,by simp [Nat.mod_one],fun r hr=>absurd hr (by omega)⟩
  rintro mm aS _ ⟨i,Z,c,g,aw,rfl,rfl,⟨hi,hc,hZ,he,hg⟩⟩
  obtain ⟨az,rfl⟩:∃ az:Nat→Value,aS=.slice (some ⟨0,0,none⟩) (nl A) ca::.slice (some ⟨1,0,none⟩) (nl D) cd::zs az 2 3 (.slice (some ⟨2,0,none⟩) i (nl A+1)::.int .u64 c::zs az 7 13 (.slice (some ⟨0,0,none⟩) (nl A) ca::.int .i64 (nl A)::.int .i64 i::zs az 23 33 [])):=bF aw;clear aw;conv=>whnf
  refine aI (fun h1=>?_) (fun h1=>?_)
  ·have h1:i < nl A:=by simpa using h1
   conv=>whnf
   refine ⟨⟨by omega,by omega⟩,?_⟩
   try simp (disch:=omega) only [ax,bH,cZ,dq,b6,dF,di,dH,cU,c0,dh,dn,dj,dy,toNat_cast,au,Nat.zero_add,dE,toNat_0,toNat_1,Nat.sub_zero,dJ,dK,dN,dO,dA,dI,dG,dL]
   conv=>whnf
   refine ⟨by show i < nl A; omega,?_⟩
   conv=>whnf
   have hlX:al A i < 4294967296:=cD A i;have hlY:al D i < 4294967296:=cD D i;obtain ⟨t,ht⟩:∃ t,t=c+al A i+al D i:=⟨_,rfl⟩;have aq:=Lv he ht;have gJ:t % B < B:=Nat.mod_lt t (show 0 < B by decide)
   have fo:t / B≤1:=by
    have e:B=4294967296:=rfl;rw [e]; omega
   have I6:=Bl (a:=c) (b:=al A i) (by omega) (by omega)
   have Af:=Bl (a:=c+al A i) (b:=al D i) (by omega) (by omega)
   rw [← ht] at Af;have e3:IntKind.i64.wrap (((i:Nat):Int)+1)=((i+1:Nat):Int):=by rw [ax (by omega) (by omega)]; rfl
   have aW:=BF hZ gJ hg;simp only [I6];refine aI (fun J=>?_) (fun J=>?_)
   ·have J:i < nl D:=by simpa using J
    conv=>whnf
    refine ⟨⟨by omega,by omega⟩,?_⟩
    try simp (disch:=omega) only [ax,bH,cZ,dq,b6,dF,di,dH,cU,c0,dh,dn,dj,dy,toNat_cast,au,Nat.zero_add,dE,toNat_0,toNat_1,Nat.sub_zero,dJ,dK,dN,dO,dA,dI,dG,dL]
    conv=>whnf
    refine ⟨by show i < nl D; omega,?_⟩
    conv=>whnf
    simp only [Af,dS];rw [fw];conv=>whnf
    refine mB ?_ ?_
    ·rw [Nat.ble_eq]; show i+1≤nl A+1; omega
    refine ⟨by show 0+i=i; omega,?_⟩
    conv=>whnf
    simp only [b6,ju,e3];refine .inr ⟨[0,1,2],[0,1,5,6,20,21,22],?_⟩;conv=>whnf
    intro _;conv=>whnf
    refine ⟨_,?_,i+1,Z+t % B*B ^ i,t / B,_,(.aa (.aa (.sk 3 (.aa (.aa (.sk 13 (.aa (.aa (.aa (.sk 33 .nil rfl)))) rfl))) rfl))),rfl,rfl,?_⟩
    ·omega
    ·exact ⟨by omega,fo,vM hZ gJ,aq,aW⟩
   ·have J:nl D≤i:=by
     have J:¬ i < nl D:=by simpa using J
     omega
    have h0:=tv (bR D) J;have e4:c+al A i=t:=by omega
    conv=>whnf
    simp only [e4,dS];rw [fw];conv=>whnf
    refine mB ?_ ?_
    ·rw [Nat.ble_eq]; show i+1≤nl A+1; omega
    refine ⟨by show 0+i=i; omega,?_⟩
    conv=>whnf
    simp only [b6,ju,e3];refine .inr ⟨[0,1,2],[0,1,5,6,20,21,22],?_⟩;conv=>whnf
    intro _;conv=>whnf
    refine ⟨_,?_,i+1,Z+t % B*B ^ i,t / B,_,(.aa (.aa (.sk 3 (.aa (.aa (.sk 13 (.aa (.aa (.aa (.sk 33 .nil rfl)))) rfl))) rfl))),rfl,rfl,?_⟩
    ·omega
    ·exact ⟨by omega,fo,vM hZ gJ,aq,aW⟩
  ·have h1:i=nl A:=by
    have h1:¬ i < nl A:=by simpa using h1
    omega
   subst h1;rw [Nat.mod_eq_of_lt (bR A),Nat.mod_eq_of_lt (Nat.lt_of_lt_of_le (bR D) (Nat.pow_le_pow_right (by decide) qJ))] at he
   have vk:c < B:=by have e:B=4294967296:=rfl; omega
   have aW:=BF hZ vk hg;have ak:=vM hZ vk;rw [he] at ak aW;conv=>whnf
   simp only [dS,Nat.mod_eq_of_lt vk];rw [fw];conv=>whnf
   refine mB ?_ ?_
   ·rw [Nat.ble_eq]; show nl A+1≤nl A+1; omega
   refine ⟨by show 0+nl A=nl A; omega,?_⟩
   conv=>whnf
   refine ⟨some (nl A+1,A+D,nl A+1),[2],rfl,⟨ak,by omega⟩,?_⟩
   conv=>whnf
   refine ⟨⟨(fun h=>by cases h),rfl,Nat.le_refl _,fun r hr=>(aW r hr).symm,fun r hr v hv=>dp (l:=bk (A+D) r) rfl v hv⟩,?_⟩
   conv=>whnf
   refine ⟨_,rfl,?_⟩;conv=>whnf
   refine ⟨2,?_⟩;conv=>whnf
   have hle:=jt ak;show (_∧aP (dB (A+D)) _)∧∃ v',cL _ 3 (kD 2 (A+D))=some v'∧_
   rw [eS];refine ⟨⟨rfl,⟨(fun h=>by cases h),rfl,hle,fun r hr=>(aW r (Nat.lt_of_lt_of_le hr hle)).symm,fun r hr v hv=>dp (l:=bk (A+D) r) rfl v hv⟩⟩,_,rfl,?_⟩
   exact .cap _ _ _ rfl
open Go Go.Ae
def Ef:Env:=En [(161,.q rO),(195,.p B9)]
theorem HQ:EnvOk Tryz.prog Ef:=bC ⟨BO,VC,trivial⟩ trivial
theorem VH:c7 Tryz.prog 183 Cc:=by
 refine dR HQ aK Tryz.func183 (enters_of Tryz.func183 (by kernel_rfl) rfl) ?_ ?_ ?_
 ·intro i b hb; simp [Cc,dB] at hb; rcases hb with rfl | rfl <;> rfl
 ·intro i b hb; simp [Cc] at hb; rw [← hb]; rfl
 intro ⟨A,ca,d⟩ hp;have hp:nl A≤137438953472∧0 < d∧d < 4294967296:=hp;conv=>whnf
 refine ⟨⟨by omega,by omega,by show ((nl A:Nat):Int)*((4:Nat):Int)≤_; omega⟩,?_⟩
 simp only [toNat_cast,sZ];conv=>whnf
 refine .inl ⟨fun mm tz hz=>∃ (i:Nat) (rem:Nat) (Y:Nat),bt (some (.slice (some ⟨0,0,none⟩) (nl A) ca)::some (.int .u32 d)::aC 4 (some (.slice (some ⟨1,0,none⟩) (nl A) (nl A))::some (.int .u32 rem)::some (.int .i64 (IntKind.i64.wrap ((i:Int) - 1)))::aC 26 [])) tz∧hz=[some (.flat false (nl A) 1 (bk A)),some (.flat true (nl A) 1 (bk Y))]∧i=mm∧(i≤nl A∧rem=A / B ^ i % d∧Y=A / B ^ i / d*B ^ i),.inl ⟨_,nl A,0,0,(.aa (.aa (.sk 4 (.aa (.aa (.aa (.sk 26 .nil rfl)))) rfl))),rfl,rfl,?_⟩,?_⟩
 ·have h:=Nat.div_eq_of_lt (bR A);exact ⟨Nat.le_refl _,by rw [h]; simp,by rw [h]; simp⟩
 rintro mm aS _ ⟨i,rem,Y,aw,rfl,rfl,⟨hi,hr,hY⟩⟩
 obtain ⟨az,rfl⟩:∃ az:Nat→Value,aS=.slice (some ⟨0,0,none⟩) (nl A) ca::.int .u32 d::zs az 2 4 (.slice (some ⟨1,0,none⟩) (nl A) (nl A)::.int .u32 rem::.int .i64 (IntKind.i64.wrap ((i:Int) - 1))::zs az 9 26 []):=bF aw;clear aw;conv=>whnf
 refine aI (fun h1=>?_) (fun h1=>?_)
 ·have h1:0 < i:=by
   rcases Nat.eq_zero_or_pos i with h | h
   ·subst h; revert h1; decide
   ·exact h
  obtain ⟨i,rfl⟩:∃ i',i=i'+1:=⟨i - 1,by omega⟩
  have ei:IntKind.i64.wrap (((i+1:Nat):Int) - 1)=((i:Nat):Int):=by rw [ax (by omega) (by omega)]; omega
  simp only [ei];have hl:=cD A i;have fe:rem < d:=by rw [hr]; exact Nat.mod_lt _ hp.2.1
  obtain ⟨t,ht⟩:∃ t,t=rem*B+al A i:=⟨_,rfl⟩;have jf:=ht;rw [hr] at jf;have aq:=KN hp.2.1 jf;have hse:=TA hp.2.1 jf;have ak:=UO hp.2.1 jf;conv=>whnf
  refine ⟨⟨by omega,by omega⟩,?_⟩
  try simp (disch:=omega) only [ax,bH,cZ,dq,b6,dF,di,dH,cU,c0,dh,dn,dj,dy,toNat_cast,au,Nat.zero_add,dE,toNat_0,toNat_1,Nat.sub_zero,dJ,dK,dN,dO,dA,dI,dG,dL]
  conv=>whnf
  refine ⟨by show i < nl A; omega,?_⟩
  conv=>whnf
  refine ⟨(rem,al A i,d),rfl,⟨fe,hl,hp.2.2⟩,?_⟩;have qL:rem*4294967296+al A i=t:=ht.symm;simp only [B9,qL];conv=>whnf
  refine ⟨⟨by omega,by omega⟩,?_⟩
  try simp (disch:=omega) only [ax,bH,cZ,dq,b6,dF,di,dH,cU,c0,dh,dn,dj,dy,toNat_cast,au,Nat.zero_add,dE,toNat_0,toNat_1,Nat.sub_zero,dJ,dK,dN,dO,dA,dI,dG,dL]
  conv=>whnf
  refine ⟨by show i < nl A; omega,?_⟩
  conv=>whnf
  rw [fg ak];refine .inl ⟨_,?_,i,t % d,cB Y i (t / d),(.aa (.aa (.sk 4 (.aa (.aa (.aa (.sk 26 .nil rfl)))) rfl))),rfl,rfl,?_⟩
  ·omega
  ·exact ⟨by omega,aq.1.symm,by rw [hY]; exact hse⟩
 ·have h1:i=0:=by
   rcases Nat.eq_zero_or_pos i with h | h
   ·exact h
   ·have e:IntKind.i64.wrap ((i:Int) - 1)=((i - 1:Nat):Int):=by rw [ax (by omega) (by omega)]; omega
    rw [e] at h1;exact absurd h1 (by simp)
  subst h1;rw [Nat.pow_zero,Nat.div_one] at hr hY;rw [Nat.mul_one] at hY;subst hr hY;have ak:A / d < B ^ nl A:=Nat.lt_of_le_of_lt (Nat.div_le_self _ _) (bR A);have hle:=jt ak;conv=>whnf
  refine ⟨some (nl A,A / d,nl A),[1],rfl,⟨ak,by omega⟩,?_⟩
  conv=>whnf
  refine ⟨aP.aY (fun h=>by cases h) (fun r hr=>rfl),?_⟩
  conv=>whnf
  refine ⟨_,rfl,?_⟩;conv=>whnf
  refine ⟨1,?_⟩;conv=>whnf
  refine ⟨⟨rfl,⟨(fun h=>⟨rfl,rfl⟩),rfl,Nat.le_refl _,fun _ _=>rfl,fun r hr v hv=>dp (l:=bk (A / d) r) rfl v hv⟩⟩,_,rfl,?_⟩
  exact .two (.cap _ _ _ rfl) (.refl _)
theorem VI:c7 Tryz.prog 185 Cd:=by
 refine dR HQ aK Tryz.func185 (enters_of Tryz.func185 (by kernel_rfl) rfl) ?_ ?_ ?_
 ·intro i b hb; simp [Cd,dB] at hb; rcases hb with rfl | rfl <;> rfl
 ·intro i b hb; simp [Cd] at hb; rw [← hb]; rfl
 intro ⟨A,ca,s⟩ hp;have hp:nl A≤137438953472∧s≤31:=hp;conv=>whnf
 have e1:IntKind.i64.wrap (((nl A:Nat):Int)+1)=((nl A+1:Nat):Int):=by rw [ax (by omega) (by omega)]; rfl
 simp only [e1];refine ⟨⟨by omega,by omega,by show ((nl A+1:Nat):Int)*((4:Nat):Int)≤_; omega⟩,?_⟩
 simp only [toNat_cast,sZ];conv=>whnf
 refine .inl ⟨fun mm tz hz=>∃ (i:Nat) (Y:Nat),bt (some (.slice (some ⟨0,0,none⟩) (nl A) ca)::some (.int .i64 s)::aC 3 (some (.slice (some ⟨1,0,none⟩) (nl A+1) (nl A+1))::aC 7 (some (.slice (some ⟨0,0,none⟩) (nl A) ca)::some (.int .i64 (nl A))::some (.int .i64 i)::aC 25 []))) tz∧hz=[some (.flat false (nl A) 1 (bk A)),some (.flat true (nl A+1) 1 (bk Y))]∧nl A - i=mm∧(i≤nl A∧Y=A % B ^ i*2 ^ s),.inl ⟨_,0,0,(.aa (.aa (.sk 3 (.aa (.sk 7 (.aa (.aa (.aa (.sk 25 .nil rfl)))) rfl)) rfl))),rfl,rfl,?_⟩,?_⟩
 ·exact ⟨Nat.zero_le _,by simp [Nat.mod_one]⟩
 rintro mm aS _ ⟨i,Y,aw,rfl,rfl,⟨hi,hY⟩⟩
 obtain ⟨az,rfl⟩:∃ az:Nat→Value,aS=.slice (some ⟨0,0,none⟩) (nl A) ca::.int .i64 s::zs az 2 3 (.slice (some ⟨1,0,none⟩) (nl A+1) (nl A+1)::zs az 6 7 (.slice (some ⟨0,0,none⟩) (nl A) ca::.int .i64 (nl A)::.int .i64 i::zs az 16 25 [])):=bF aw;clear aw;conv=>whnf
 refine aI (fun h1=>?_) (fun h1=>?_)
 ·have h1:i < nl A:=by simpa using h1
  have hl:=cD A i;have hu:al Y i < 2 ^ s:=by rw [hY]; exact KO
  have IQ:=YZ (l:=al A i) hp.2 hu;have adu:=Oq (l:=al A i) hp.2 hu;have aq:=Se (A:=A) (i:=i) hp.2;rw [← hY] at aq;have J:=wb hp.2;have Qc:al A i*2 ^ s / B < B:=by
   refine (Nat.div_lt_iff_lt_mul (by decide)).2 ?_
   exact Nat.mul_lt_mul_of_lt_of_le hl (by show _≤4294967296; omega) (by decide)
  conv=>whnf
  refine ⟨⟨by omega,by omega⟩,?_⟩
  try simp (disch:=omega) only [ax,bH,cZ,dq,b6,dF,di,dH,cU,c0,dh,dn,dj,dy,toNat_cast,au,Nat.zero_add,dE,toNat_0,toNat_1,Nat.sub_zero,dJ,dK,dN,dO,dA,dI,dG,dL]
  conv=>whnf
  refine ⟨by show i < nl A; omega,?_⟩
  conv=>whnf
  have jZ:IntKind.u64.wrap ((al A i:Nat):Int)=((al A i:Nat):Int):=bH (by omega) (by have:B=4294967296:=rfl; omega)
  have hv:=Wb hp.2 hl;have Qd:al A i*2 ^ s / B % B=al A i*2 ^ s / B:=Nat.mod_eq_of_lt Qc;have e3:IntKind.i64.wrap (((i:Nat):Int)+1)=((i+1:Nat):Int):=by rw [ax (by omega) (by omega)]; rfl
  simp only [toNat_cast,jZ,hv];refine ⟨⟨by omega,by omega⟩,?_⟩
  simp only [toNat_cast,au,Nat.zero_add];conv=>whnf
  refine ⟨by show i < nl A+1; omega,?_⟩
  conv=>whnf
  simp only [dS,IQ,e3,b6,ju,Qd];refine ⟨⟨by omega,by omega⟩,?_⟩
  simp only [toNat_cast,au,Nat.zero_add];conv=>whnf
  refine ⟨by show i < nl A+1; omega,?_⟩
  conv=>whnf
  rw [fg adu];simp only [e3,b6,ju,dS,Qd];refine ⟨⟨by omega,by omega⟩,?_⟩
  simp only [toNat_cast,au,Nat.zero_add];conv=>whnf
  refine ⟨by show i+1 < nl A+1; omega,?_⟩
  conv=>whnf
  rw [fg Qc,aq];simp only [e3];refine .inl ⟨_,?_,i+1,A % B ^ (i+1)*2 ^ s,(.aa (.aa (.sk 3 (.aa (.sk 7 (.aa (.aa (.aa (.sk 25 .nil rfl)))) rfl)) rfl))),rfl,rfl,?_⟩
  ·omega
  ·exact ⟨by omega,rfl⟩
 ·have h1:i=nl A:=by
   have h1:¬ i < nl A:=by simpa using h1
   omega
  subst h1;rw [Nat.mod_eq_of_lt (bR A)] at hY;subst hY;conv=>whnf
  refine ⟨1,?_⟩;conv=>whnf
  refine ⟨⟨rfl,⟨(fun h=>⟨rfl,rfl⟩),rfl,Nat.le_refl _,fun _ _=>rfl,fun r hr v hv=>dp (l:=bk (A*2 ^ s) r) rfl v hv⟩⟩,_,rfl,?_⟩
  exact .refl _
theorem SY:c7 Tryz.prog 187 Bn:=by
 refine dR HQ aK Tryz.func187 (enters_of Tryz.func187 (by kernel_rfl) rfl) ?_ ?_ ?_
 ·intro i b hb; simp [Bn,dB] at hb; rcases hb with rfl | rfl <;> rfl
 ·intro i b hb; simp [Bn] at hb; rw [← hb]; rfl
 intro ⟨A,ca,s⟩ hp;have hp:nl A≤137438953472∧s≤31:=hp;conv=>whnf
 refine ⟨⟨by omega,by omega,by show ((nl A:Nat):Int)*((4:Nat):Int)≤_; omega⟩,?_⟩
 simp only [toNat_cast,sZ];conv=>whnf
 refine .inl ⟨fun mm tz hz=>∃ (i:Nat) (Y:Nat),bt (some (.slice (some ⟨0,0,none⟩) (nl A) ca)::some (.int .i64 s)::aC 3 (some (.slice (some ⟨1,0,none⟩) (nl A) (nl A))::aC 6 (some (.int .i64 (nl A))::some (.int .i64 i)::aC 31 []))) tz∧hz=[some (.flat false (nl A) 1 (bk A)),some (.flat true (nl A) 1 (bk Y))]∧nl A - i=mm∧(i≤nl A∧Y=A / 2 ^ s % B ^ i),.inl ⟨_,0,0,(.aa (.aa (.sk 3 (.aa (.sk 6 (.aa (.aa (.sk 31 .nil rfl))) rfl)) rfl))),rfl,rfl,?_⟩,?_⟩
 ·exact ⟨Nat.zero_le _,by simp [Nat.mod_one]⟩
 rintro mm aS _ ⟨i,Y,aw,rfl,rfl,⟨hi,hY⟩⟩
 obtain ⟨az,rfl⟩:∃ az:Nat→Value,aS=.slice (some ⟨0,0,none⟩) (nl A) ca::.int .i64 s::zs az 2 3 (.slice (some ⟨1,0,none⟩) (nl A) (nl A)::zs az 6 6 (.int .i64 (nl A)::.int .i64 i::zs az 14 31 [])):=bF aw;clear aw;conv=>whnf
 refine aI (fun h1=>?_) (fun h1=>?_)
 ·have h1:i < nl A:=by simpa using h1
  have hl:=cD A i;have iI:al A (i+1) < B:=cD A (i+1);have e3:IntKind.i64.wrap (((i:Nat):Int)+1)=((i+1:Nat):Int):=by rw [ax (by omega) (by omega)]; rfl
  have jZ:IntKind.u64.wrap ((al A i:Nat):Int)=((al A i:Nat):Int):=bH (by omega) (by have:B=4294967296:=rfl; omega)
  have adv:IntKind.u64.wrap ((al A (i+1):Nat):Int)=((al A (i+1):Nat):Int):=bH (by omega) (by have:B=4294967296:=rfl; omega)
  have hd:=Q7 (A:=A) (i:=i) hp.2;have DC:cB Y i (al (A / 2 ^ s) i)=A / 2 ^ s % B ^ (i+1):=by
   rw [mod_succ,← hY];exact AK (by rw [hY]; exact Nat.mod_lt _ (dM i))
  conv=>whnf
  refine ⟨⟨by omega,by omega⟩,?_⟩
  try simp (disch:=omega) only [ax,bH,cZ,dq,b6,dF,di,dH,cU,c0,dh,dn,dj,dy,toNat_cast,au,Nat.zero_add,dE,toNat_0,toNat_1,Nat.sub_zero,dJ,dK,dN,dO,dA,dI,dG,dL]
  conv=>whnf
  refine ⟨by show i < nl A; omega,?_⟩
  conv=>whnf
  simp only [e3,jZ];refine aI (fun J=>?_) (fun J=>?_)
  ·have J:i+1 < nl A:=by
    have J:=of_decide_eq_true J;omega
   conv=>whnf
   simp only [e3];refine ⟨⟨by omega,by omega⟩,?_⟩
   simp only [toNat_cast,au,Nat.zero_add];conv=>whnf
   refine ⟨by show i+1 < nl A; omega,?_⟩
   conv=>whnf
   have qn:IntKind.u64.wrap (((al A (i+1):Nat):Int)*4294967296)=((al A (i+1):Nat):Int)*4294967296:=bH (by omega) (by have:B=4294967296:=rfl; omega)
   simp only [adv,di,qn,UQ iI hl];simp only [M1 hp.2,toNat_cast,dS];refine ⟨⟨by omega,by omega⟩,?_⟩
   simp only [toNat_cast,au,Nat.zero_add];conv=>whnf
   refine ⟨by show i < nl A; omega,?_⟩
   conv=>whnf
   simp only [e3,← hd];rw [fg (cD (A / 2 ^ s) i),DC];refine .inl ⟨_,?_,i+1,A / 2 ^ s % B ^ (i+1),(.aa (.aa (.sk 3 (.aa (.sk 6 (.aa (.aa (.sk 31 .nil rfl))) rfl)) rfl))),rfl,rfl,?_⟩
   ·omega
   ·exact ⟨by omega,rfl⟩
  ·have J:nl A≤i+1:=by
    have J:=of_decide_eq_false J;omega
   have h0:=tv (bR A) J;rw [h0,Nat.zero_mul,Nat.add_zero] at hd;conv=>whnf
   simp only [M1 hp.2,toNat_cast,dS];refine ⟨⟨by omega,by omega⟩,?_⟩
   simp only [toNat_cast,au,Nat.zero_add];conv=>whnf
   refine ⟨by show i < nl A; omega,?_⟩
   conv=>whnf
   simp only [e3,← hd];rw [fg (cD (A / 2 ^ s) i),DC];refine .inl ⟨_,?_,i+1,A / 2 ^ s % B ^ (i+1),(.aa (.aa (.sk 3 (.aa (.sk 6 (.aa (.aa (.sk 31 .nil rfl))) rfl)) rfl))),rfl,rfl,?_⟩
   ·omega
   ·exact ⟨by omega,rfl⟩
 ·have h1:i=nl A:=by
   have h1:¬ i < nl A:=by simpa using h1
   omega
  subst h1;have ak:A / 2 ^ s < B ^ nl A:=Nat.lt_of_le_of_lt (Nat.div_le_self _ _) (bR A);have hle:=jt ak;rw [Nat.mod_eq_of_lt ak] at hY;subst hY;conv=>whnf
  refine ⟨some (nl A,A / 2 ^ s,nl A),[1],rfl,⟨ak,by omega⟩,?_⟩
  conv=>whnf
  refine ⟨aP.aY (fun h=>by cases h) (fun r hr=>rfl),?_⟩
  conv=>whnf
  refine ⟨_,rfl,?_⟩;conv=>whnf
  refine ⟨1,?_⟩;conv=>whnf
  refine ⟨⟨rfl,⟨(fun h=>⟨rfl,rfl⟩),rfl,Nat.le_refl _,fun _ _=>rfl,fun r hr v hv=>dp (l:=bk (A / 2 ^ s) r) rfl v hv⟩⟩,_,rfl,?_⟩
  exact .cap _ _ _ rfl
end Go.Proofs.YtlapbjdhekcipaaGreat
