/- The table of named references as a list, and the contract of api.Entities: it answers a new row that reads as that list, and changes nothing that was there. -/
import Derived.Test.YtkinpihjjelcpaaPEx0
namespace Go.Proofs.Ytkinpihjjelcpaa.PE
open Go.RowKit Go.Proofs.YtkinpihjjelcpaaW.PrintWords Go.Proofs.YtkinpihjjelcpaaW.PrintLast Go.Proofs.YtkinpihjjelcpaaW.PrintMore

/-- The table of named references. -/
def tab : List S43 := [
  ⟨⟨#[65, 69, 108, 105, 103]⟩, 198, 0, true⟩, ⟨⟨#[65, 77, 80]⟩, 38, 0, true⟩, ⟨⟨#[65, 97, 99, 117, 116, 101]⟩, 193, 0, true⟩, ⟨⟨#[65, 99, 105, 114, 99]⟩, 194, 0, true⟩,
  ⟨⟨#[65, 102, 114]⟩, 120068, 0, false⟩, ⟨⟨#[65, 103, 114, 97, 118, 101]⟩, 192, 0, true⟩, ⟨⟨#[65, 108, 112, 104, 97]⟩, 913, 0, false⟩, ⟨⟨#[65, 114, 105, 110, 103]⟩, 197, 0, true⟩,
  ⟨⟨#[65, 116, 105, 108, 100, 101]⟩, 195, 0, true⟩, ⟨⟨#[65, 117, 109, 108]⟩, 196, 0, true⟩, ⟨⟨#[66, 101, 116, 97]⟩, 914, 0, false⟩, ⟨⟨#[67, 79, 80, 89]⟩, 169, 0, true⟩,
  ⟨⟨#[67, 99, 101, 100, 105, 108]⟩, 199, 0, true⟩, ⟨⟨#[67, 104, 105]⟩, 935, 0, false⟩, ⟨⟨#[67, 111, 112, 102]⟩, 8450, 0, false⟩, ⟨⟨#[68, 97, 103, 103, 101, 114]⟩, 8225, 0, false⟩,
  ⟨⟨#[68, 101, 108, 116, 97]⟩, 916, 0, false⟩, ⟨⟨#[69, 84, 72]⟩, 208, 0, true⟩, ⟨⟨#[69, 97, 99, 117, 116, 101]⟩, 201, 0, true⟩, ⟨⟨#[69, 99, 105, 114, 99]⟩, 202, 0, true⟩,
  ⟨⟨#[69, 103, 114, 97, 118, 101]⟩, 200, 0, true⟩, ⟨⟨#[69, 112, 115, 105, 108, 111, 110]⟩, 917, 0, false⟩, ⟨⟨#[69, 116, 97]⟩, 919, 0, false⟩,
  ⟨⟨#[69, 117, 109, 108]⟩, 203, 0, true⟩, ⟨⟨#[71, 84]⟩, 62, 0, true⟩, ⟨⟨#[71, 97, 109, 109, 97]⟩, 915, 0, false⟩, ⟨⟨#[72, 97, 116]⟩, 94, 0, false⟩,
  ⟨⟨#[73, 97, 99, 117, 116, 101]⟩, 205, 0, true⟩, ⟨⟨#[73, 99, 105, 114, 99]⟩, 206, 0, true⟩, ⟨⟨#[73, 103, 114, 97, 118, 101]⟩, 204, 0, true⟩,
  ⟨⟨#[73, 111, 116, 97]⟩, 921, 0, false⟩, ⟨⟨#[73, 117, 109, 108]⟩, 207, 0, true⟩, ⟨⟨#[75, 97, 112, 112, 97]⟩, 922, 0, false⟩, ⟨⟨#[76, 84]⟩, 60, 0, true⟩,
  ⟨⟨#[76, 97, 109, 98, 100, 97]⟩, 923, 0, false⟩, ⟨⟨#[77, 117]⟩, 924, 0, false⟩, ⟨⟨#[78, 101, 119, 76, 105, 110, 101]⟩, 10, 0, false⟩,
  ⟨⟨#[78, 111, 116, 69, 113, 117, 97, 108, 84, 105, 108, 100, 101]⟩, 8770, 824, false⟩, ⟨⟨#[78, 116, 105, 108, 100, 101]⟩, 209, 0, true⟩, ⟨⟨#[78, 117]⟩, 925, 0, false⟩,
  ⟨⟨#[79, 69, 108, 105, 103]⟩, 338, 0, false⟩, ⟨⟨#[79, 97, 99, 117, 116, 101]⟩, 211, 0, true⟩, ⟨⟨#[79, 99, 105, 114, 99]⟩, 212, 0, true⟩,
  ⟨⟨#[79, 103, 114, 97, 118, 101]⟩, 210, 0, true⟩, ⟨⟨#[79, 109, 101, 103, 97]⟩, 937, 0, false⟩, ⟨⟨#[79, 109, 105, 99, 114, 111, 110]⟩, 927, 0, false⟩,
  ⟨⟨#[79, 115, 108, 97, 115, 104]⟩, 216, 0, true⟩, ⟨⟨#[79, 116, 105, 108, 100, 101]⟩, 213, 0, true⟩, ⟨⟨#[79, 117, 109, 108]⟩, 214, 0, true⟩, ⟨⟨#[80, 104, 105]⟩, 934, 0, false⟩,
  ⟨⟨#[80, 105]⟩, 928, 0, false⟩, ⟨⟨#[80, 114, 105, 109, 101]⟩, 8243, 0, false⟩, ⟨⟨#[80, 115, 105]⟩, 936, 0, false⟩, ⟨⟨#[81, 85, 79, 84]⟩, 34, 0, true⟩,
  ⟨⟨#[82, 69, 71]⟩, 174, 0, true⟩, ⟨⟨#[82, 104, 111]⟩, 929, 0, false⟩, ⟨⟨#[83, 99, 97, 114, 111, 110]⟩, 352, 0, false⟩, ⟨⟨#[83, 105, 103, 109, 97]⟩, 931, 0, false⟩,
  ⟨⟨#[84, 72, 79, 82, 78]⟩, 222, 0, true⟩, ⟨⟨#[84, 97, 98]⟩, 9, 0, false⟩, ⟨⟨#[84, 97, 117]⟩, 932, 0, false⟩, ⟨⟨#[84, 104, 101, 116, 97]⟩, 920, 0, false⟩,
  ⟨⟨#[84, 104, 105, 99, 107, 83, 112, 97, 99, 101]⟩, 8287, 8202, false⟩, ⟨⟨#[85, 97, 99, 117, 116, 101]⟩, 218, 0, true⟩, ⟨⟨#[85, 99, 105, 114, 99]⟩, 219, 0, true⟩,
  ⟨⟨#[85, 103, 114, 97, 118, 101]⟩, 217, 0, true⟩, ⟨⟨#[85, 112, 115, 105, 108, 111, 110]⟩, 933, 0, false⟩, ⟨⟨#[85, 117, 109, 108]⟩, 220, 0, true⟩, ⟨⟨#[88, 105]⟩, 926, 0, false⟩,
  ⟨⟨#[89, 97, 99, 117, 116, 101]⟩, 221, 0, true⟩, ⟨⟨#[89, 117, 109, 108]⟩, 376, 0, false⟩, ⟨⟨#[90, 101, 116, 97]⟩, 918, 0, false⟩, ⟨⟨#[97, 97, 99, 117, 116, 101]⟩, 225, 0, true⟩,
  ⟨⟨#[97, 99, 105, 114, 99]⟩, 226, 0, true⟩, ⟨⟨#[97, 99, 117, 116, 101]⟩, 180, 0, true⟩, ⟨⟨#[97, 101, 108, 105, 103]⟩, 230, 0, true⟩,
  ⟨⟨#[97, 103, 114, 97, 118, 101]⟩, 224, 0, true⟩, ⟨⟨#[97, 108, 101, 102, 115, 121, 109]⟩, 8501, 0, false⟩, ⟨⟨#[97, 108, 112, 104, 97]⟩, 945, 0, false⟩,
  ⟨⟨#[97, 109, 112]⟩, 38, 0, true⟩, ⟨⟨#[97, 110, 100]⟩, 8743, 0, false⟩, ⟨⟨#[97, 110, 103]⟩, 8736, 0, false⟩, ⟨⟨#[97, 112, 111, 115]⟩, 39, 0, false⟩,
  ⟨⟨#[97, 114, 105, 110, 103]⟩, 229, 0, true⟩, ⟨⟨#[97, 115, 116]⟩, 42, 0, false⟩, ⟨⟨#[97, 115, 121, 109, 112]⟩, 8776, 0, false⟩, ⟨⟨#[97, 116, 105, 108, 100, 101]⟩, 227, 0, true⟩,
  ⟨⟨#[97, 117, 109, 108]⟩, 228, 0, true⟩, ⟨⟨#[98, 100, 113, 117, 111]⟩, 8222, 0, false⟩, ⟨⟨#[98, 101, 116, 97]⟩, 946, 0, false⟩, ⟨⟨#[98, 110, 101]⟩, 61, 8421, false⟩,
  ⟨⟨#[98, 114, 118, 98, 97, 114]⟩, 166, 0, true⟩, ⟨⟨#[98, 115, 111, 108]⟩, 92, 0, false⟩, ⟨⟨#[98, 117, 108, 108]⟩, 8226, 0, false⟩, ⟨⟨#[99, 97, 112]⟩, 8745, 0, false⟩,
  ⟨⟨#[99, 99, 101, 100, 105, 108]⟩, 231, 0, true⟩, ⟨⟨#[99, 101, 100, 105, 108]⟩, 184, 0, true⟩, ⟨⟨#[99, 101, 110, 116]⟩, 162, 0, true⟩, ⟨⟨#[99, 104, 105]⟩, 967, 0, false⟩,
  ⟨⟨#[99, 105, 114, 99]⟩, 710, 0, false⟩, ⟨⟨#[99, 108, 117, 98, 115]⟩, 9827, 0, false⟩, ⟨⟨#[99, 111, 108, 111, 110]⟩, 58, 0, false⟩, ⟨⟨#[99, 111, 109, 109, 97]⟩, 44, 0, false⟩,
  ⟨⟨#[99, 111, 109, 109, 97, 116]⟩, 64, 0, false⟩, ⟨⟨#[99, 111, 110, 103]⟩, 8773, 0, false⟩, ⟨⟨#[99, 111, 112, 121]⟩, 169, 0, true⟩, ⟨⟨#[99, 114, 97, 114, 114]⟩, 8629, 0, false⟩,
  ⟨⟨#[99, 117, 112]⟩, 8746, 0, false⟩, ⟨⟨#[99, 117, 114, 114, 101, 110]⟩, 164, 0, true⟩, ⟨⟨#[100, 65, 114, 114]⟩, 8659, 0, false⟩,
  ⟨⟨#[100, 97, 103, 103, 101, 114]⟩, 8224, 0, false⟩, ⟨⟨#[100, 97, 114, 114]⟩, 8595, 0, false⟩, ⟨⟨#[100, 101, 103]⟩, 176, 0, true⟩, ⟨⟨#[100, 101, 108, 116, 97]⟩, 948, 0, false⟩,
  ⟨⟨#[100, 105, 97, 109, 115]⟩, 9830, 0, false⟩, ⟨⟨#[100, 105, 118, 105, 100, 101]⟩, 247, 0, true⟩, ⟨⟨#[100, 111, 108, 108, 97, 114]⟩, 36, 0, false⟩,
  ⟨⟨#[101, 97, 99, 117, 116, 101]⟩, 233, 0, true⟩, ⟨⟨#[101, 99, 105, 114, 99]⟩, 234, 0, true⟩, ⟨⟨#[101, 103, 114, 97, 118, 101]⟩, 232, 0, true⟩,
  ⟨⟨#[101, 109, 112, 116, 121]⟩, 8709, 0, false⟩, ⟨⟨#[101, 109, 115, 112]⟩, 8195, 0, false⟩, ⟨⟨#[101, 110, 115, 112]⟩, 8194, 0, false⟩,
  ⟨⟨#[101, 112, 115, 105, 108, 111, 110]⟩, 949, 0, false⟩, ⟨⟨#[101, 113, 117, 97, 108, 115]⟩, 61, 0, false⟩, ⟨⟨#[101, 113, 117, 105, 118]⟩, 8801, 0, false⟩,
  ⟨⟨#[101, 116, 97]⟩, 951, 0, false⟩, ⟨⟨#[101, 116, 104]⟩, 240, 0, true⟩, ⟨⟨#[101, 117, 109, 108]⟩, 235, 0, true⟩, ⟨⟨#[101, 117, 114, 111]⟩, 8364, 0, false⟩,
  ⟨⟨#[101, 120, 99, 108]⟩, 33, 0, false⟩, ⟨⟨#[101, 120, 105, 115, 116]⟩, 8707, 0, false⟩, ⟨⟨#[102, 106, 108, 105, 103]⟩, 102, 106, false⟩, ⟨⟨#[102, 110, 111, 102]⟩, 402, 0, false⟩,
  ⟨⟨#[102, 111, 114, 97, 108, 108]⟩, 8704, 0, false⟩, ⟨⟨#[102, 114, 97, 99, 49, 50]⟩, 189, 0, true⟩, ⟨⟨#[102, 114, 97, 99, 49, 52]⟩, 188, 0, true⟩,
  ⟨⟨#[102, 114, 97, 99, 51, 52]⟩, 190, 0, true⟩, ⟨⟨#[102, 114, 97, 115, 108]⟩, 8260, 0, false⟩, ⟨⟨#[103, 97, 109, 109, 97]⟩, 947, 0, false⟩, ⟨⟨#[103, 101]⟩, 8805, 0, false⟩,
  ⟨⟨#[103, 114, 97, 118, 101]⟩, 96, 0, false⟩, ⟨⟨#[103, 116]⟩, 62, 0, true⟩, ⟨⟨#[104, 65, 114, 114]⟩, 8660, 0, false⟩, ⟨⟨#[104, 97, 114, 114]⟩, 8596, 0, false⟩,
  ⟨⟨#[104, 101, 97, 114, 116, 115]⟩, 9829, 0, false⟩, ⟨⟨#[104, 101, 108, 108, 105, 112]⟩, 8230, 0, false⟩, ⟨⟨#[105, 97, 99, 117, 116, 101]⟩, 237, 0, true⟩,
  ⟨⟨#[105, 99, 105, 114, 99]⟩, 238, 0, true⟩, ⟨⟨#[105, 101, 120, 99, 108]⟩, 161, 0, true⟩, ⟨⟨#[105, 103, 114, 97, 118, 101]⟩, 236, 0, true⟩,
  ⟨⟨#[105, 109, 97, 103, 101]⟩, 8465, 0, false⟩, ⟨⟨#[105, 110, 102, 105, 110]⟩, 8734, 0, false⟩, ⟨⟨#[105, 110, 116]⟩, 8747, 0, false⟩, ⟨⟨#[105, 111, 116, 97]⟩, 953, 0, false⟩,
  ⟨⟨#[105, 113, 117, 101, 115, 116]⟩, 191, 0, true⟩, ⟨⟨#[105, 115, 105, 110]⟩, 8712, 0, false⟩, ⟨⟨#[105, 117, 109, 108]⟩, 239, 0, true⟩,
  ⟨⟨#[107, 97, 112, 112, 97]⟩, 954, 0, false⟩, ⟨⟨#[108, 65, 114, 114]⟩, 8656, 0, false⟩, ⟨⟨#[108, 97, 109, 98, 100, 97]⟩, 955, 0, false⟩, ⟨⟨#[108, 97, 110, 103]⟩, 10216, 0, false⟩,
  ⟨⟨#[108, 97, 113, 117, 111]⟩, 171, 0, true⟩, ⟨⟨#[108, 97, 114, 114]⟩, 8592, 0, false⟩, ⟨⟨#[108, 98, 114, 97, 99, 101]⟩, 123, 0, false⟩,
  ⟨⟨#[108, 98, 114, 97, 99, 107]⟩, 91, 0, false⟩, ⟨⟨#[108, 99, 101, 105, 108]⟩, 8968, 0, false⟩, ⟨⟨#[108, 99, 117, 98]⟩, 123, 0, false⟩,
  ⟨⟨#[108, 100, 113, 117, 111]⟩, 8220, 0, false⟩, ⟨⟨#[108, 101]⟩, 8804, 0, false⟩, ⟨⟨#[108, 102, 108, 111, 111, 114]⟩, 8970, 0, false⟩,
  ⟨⟨#[108, 111, 119, 97, 115, 116]⟩, 8727, 0, false⟩, ⟨⟨#[108, 111, 119, 98, 97, 114]⟩, 95, 0, false⟩, ⟨⟨#[108, 111, 122]⟩, 9674, 0, false⟩, ⟨⟨#[108, 112, 97, 114]⟩, 40, 0, false⟩,
  ⟨⟨#[108, 114, 109]⟩, 8206, 0, false⟩, ⟨⟨#[108, 115, 97, 113, 117, 111]⟩, 8249, 0, false⟩, ⟨⟨#[108, 115, 113, 98]⟩, 91, 0, false⟩, ⟨⟨#[108, 115, 113, 117, 111]⟩, 8216, 0, false⟩,
  ⟨⟨#[108, 116]⟩, 60, 0, true⟩, ⟨⟨#[109, 97, 99, 114]⟩, 175, 0, true⟩, ⟨⟨#[109, 100, 97, 115, 104]⟩, 8212, 0, false⟩, ⟨⟨#[109, 105, 99, 114, 111]⟩, 181, 0, true⟩,
  ⟨⟨#[109, 105, 100, 100, 111, 116]⟩, 183, 0, true⟩, ⟨⟨#[109, 105, 110, 117, 115]⟩, 8722, 0, false⟩, ⟨⟨#[109, 117]⟩, 956, 0, false⟩, ⟨⟨#[110, 97, 98, 108, 97]⟩, 8711, 0, false⟩,
  ⟨⟨#[110, 98, 115, 112]⟩, 160, 0, true⟩, ⟨⟨#[110, 100, 97, 115, 104]⟩, 8211, 0, false⟩, ⟨⟨#[110, 101]⟩, 8800, 0, false⟩, ⟨⟨#[110, 105]⟩, 8715, 0, false⟩,
  ⟨⟨#[110, 111, 116]⟩, 172, 0, true⟩, ⟨⟨#[110, 111, 116, 105, 110]⟩, 8713, 0, false⟩, ⟨⟨#[110, 111, 116, 105, 110, 118, 97]⟩, 8713, 0, false⟩,
  ⟨⟨#[110, 111, 116, 110, 105]⟩, 8716, 0, false⟩, ⟨⟨#[110, 115, 117, 98]⟩, 8836, 0, false⟩, ⟨⟨#[110, 116, 105, 108, 100, 101]⟩, 241, 0, true⟩, ⟨⟨#[110, 117]⟩, 957, 0, false⟩,
  ⟨⟨#[110, 117, 109]⟩, 35, 0, false⟩, ⟨⟨#[110, 118, 108, 116]⟩, 60, 8402, false⟩, ⟨⟨#[111, 97, 99, 117, 116, 101]⟩, 243, 0, true⟩, ⟨⟨#[111, 99, 105, 114, 99]⟩, 244, 0, true⟩,
  ⟨⟨#[111, 101, 108, 105, 103]⟩, 339, 0, false⟩, ⟨⟨#[111, 103, 114, 97, 118, 101]⟩, 242, 0, true⟩, ⟨⟨#[111, 108, 105, 110, 101]⟩, 8254, 0, false⟩,
  ⟨⟨#[111, 109, 101, 103, 97]⟩, 969, 0, false⟩, ⟨⟨#[111, 109, 105, 99, 114, 111, 110]⟩, 959, 0, false⟩, ⟨⟨#[111, 112, 108, 117, 115]⟩, 8853, 0, false⟩,
  ⟨⟨#[111, 114]⟩, 8744, 0, false⟩, ⟨⟨#[111, 114, 100, 102]⟩, 170, 0, true⟩, ⟨⟨#[111, 114, 100, 109]⟩, 186, 0, true⟩, ⟨⟨#[111, 115, 108, 97, 115, 104]⟩, 248, 0, true⟩,
  ⟨⟨#[111, 116, 105, 108, 100, 101]⟩, 245, 0, true⟩, ⟨⟨#[111, 116, 105, 109, 101, 115]⟩, 8855, 0, false⟩, ⟨⟨#[111, 117, 109, 108]⟩, 246, 0, true⟩,
  ⟨⟨#[112, 97, 114, 97]⟩, 182, 0, true⟩, ⟨⟨#[112, 97, 114, 116]⟩, 8706, 0, false⟩, ⟨⟨#[112, 101, 114, 99, 110, 116]⟩, 37, 0, false⟩,
  ⟨⟨#[112, 101, 114, 105, 111, 100]⟩, 46, 0, false⟩, ⟨⟨#[112, 101, 114, 109, 105, 108]⟩, 8240, 0, false⟩, ⟨⟨#[112, 101, 114, 112]⟩, 8869, 0, false⟩,
  ⟨⟨#[112, 104, 105]⟩, 966, 0, false⟩, ⟨⟨#[112, 105]⟩, 960, 0, false⟩, ⟨⟨#[112, 105, 118]⟩, 982, 0, false⟩, ⟨⟨#[112, 108, 117, 115]⟩, 43, 0, false⟩,
  ⟨⟨#[112, 108, 117, 115, 109, 110]⟩, 177, 0, true⟩, ⟨⟨#[112, 111, 117, 110, 100]⟩, 163, 0, true⟩, ⟨⟨#[112, 114, 105, 109, 101]⟩, 8242, 0, false⟩,
  ⟨⟨#[112, 114, 111, 100]⟩, 8719, 0, false⟩, ⟨⟨#[112, 114, 111, 112]⟩, 8733, 0, false⟩, ⟨⟨#[112, 115, 105]⟩, 968, 0, false⟩, ⟨⟨#[113, 117, 101, 115, 116]⟩, 63, 0, false⟩,
  ⟨⟨#[113, 117, 111, 116]⟩, 34, 0, true⟩, ⟨⟨#[114, 65, 114, 114]⟩, 8658, 0, false⟩, ⟨⟨#[114, 97, 100, 105, 99]⟩, 8730, 0, false⟩, ⟨⟨#[114, 97, 110, 103]⟩, 10217, 0, false⟩,
  ⟨⟨#[114, 97, 113, 117, 111]⟩, 187, 0, true⟩, ⟨⟨#[114, 97, 114, 114]⟩, 8594, 0, false⟩, ⟨⟨#[114, 98, 114, 97, 99, 101]⟩, 125, 0, false⟩,
  ⟨⟨#[114, 98, 114, 97, 99, 107]⟩, 93, 0, false⟩, ⟨⟨#[114, 99, 101, 105, 108]⟩, 8969, 0, false⟩, ⟨⟨#[114, 99, 117, 98]⟩, 125, 0, false⟩,
  ⟨⟨#[114, 100, 113, 117, 111]⟩, 8221, 0, false⟩, ⟨⟨#[114, 101, 97, 108]⟩, 8476, 0, false⟩, ⟨⟨#[114, 101, 103]⟩, 174, 0, true⟩, ⟨⟨#[114, 102, 108, 111, 111, 114]⟩, 8971, 0, false⟩,
  ⟨⟨#[114, 104, 111]⟩, 961, 0, false⟩, ⟨⟨#[114, 108, 109]⟩, 8207, 0, false⟩, ⟨⟨#[114, 112, 97, 114]⟩, 41, 0, false⟩, ⟨⟨#[114, 115, 97, 113, 117, 111]⟩, 8250, 0, false⟩,
  ⟨⟨#[114, 115, 113, 98]⟩, 93, 0, false⟩, ⟨⟨#[114, 115, 113, 117, 111]⟩, 8217, 0, false⟩, ⟨⟨#[115, 98, 113, 117, 111]⟩, 8218, 0, false⟩,
  ⟨⟨#[115, 99, 97, 114, 111, 110]⟩, 353, 0, false⟩, ⟨⟨#[115, 100, 111, 116]⟩, 8901, 0, false⟩, ⟨⟨#[115, 101, 99, 116]⟩, 167, 0, true⟩, ⟨⟨#[115, 101, 109, 105]⟩, 59, 0, false⟩,
  ⟨⟨#[115, 104, 121]⟩, 173, 0, true⟩, ⟨⟨#[115, 105, 103, 109, 97]⟩, 963, 0, false⟩, ⟨⟨#[115, 105, 103, 109, 97, 102]⟩, 962, 0, false⟩, ⟨⟨#[115, 105, 109]⟩, 8764, 0, false⟩,
  ⟨⟨#[115, 111, 108]⟩, 47, 0, false⟩, ⟨⟨#[115, 112, 97, 100, 101, 115]⟩, 9824, 0, false⟩, ⟨⟨#[115, 117, 98]⟩, 8834, 0, false⟩, ⟨⟨#[115, 117, 98, 101]⟩, 8838, 0, false⟩,
  ⟨⟨#[115, 117, 109]⟩, 8721, 0, false⟩, ⟨⟨#[115, 117, 112]⟩, 8835, 0, false⟩, ⟨⟨#[115, 117, 112, 49]⟩, 185, 0, true⟩, ⟨⟨#[115, 117, 112, 50]⟩, 178, 0, true⟩,
  ⟨⟨#[115, 117, 112, 51]⟩, 179, 0, true⟩, ⟨⟨#[115, 117, 112, 101]⟩, 8839, 0, false⟩, ⟨⟨#[115, 122, 108, 105, 103]⟩, 223, 0, true⟩, ⟨⟨#[116, 97, 117]⟩, 964, 0, false⟩,
  ⟨⟨#[116, 104, 101, 114, 101, 52]⟩, 8756, 0, false⟩, ⟨⟨#[116, 104, 101, 116, 97]⟩, 952, 0, false⟩, ⟨⟨#[116, 104, 101, 116, 97, 115, 121, 109]⟩, 977, 0, false⟩,
  ⟨⟨#[116, 104, 105, 110, 115, 112]⟩, 8201, 0, false⟩, ⟨⟨#[116, 104, 111, 114, 110]⟩, 254, 0, true⟩, ⟨⟨#[116, 105, 108, 100, 101]⟩, 732, 0, false⟩,
  ⟨⟨#[116, 105, 109, 101, 115]⟩, 215, 0, true⟩, ⟨⟨#[116, 114, 97, 100, 101]⟩, 8482, 0, false⟩, ⟨⟨#[117, 65, 114, 114]⟩, 8657, 0, false⟩,
  ⟨⟨#[117, 97, 99, 117, 116, 101]⟩, 250, 0, true⟩, ⟨⟨#[117, 97, 114, 114]⟩, 8593, 0, false⟩, ⟨⟨#[117, 99, 105, 114, 99]⟩, 251, 0, true⟩,
  ⟨⟨#[117, 103, 114, 97, 118, 101]⟩, 249, 0, true⟩, ⟨⟨#[117, 109, 108]⟩, 168, 0, true⟩, ⟨⟨#[117, 112, 115, 105, 104]⟩, 978, 0, false⟩,
  ⟨⟨#[117, 112, 115, 105, 108, 111, 110]⟩, 965, 0, false⟩, ⟨⟨#[117, 117, 109, 108]⟩, 252, 0, true⟩, ⟨⟨#[118, 101, 114, 98, 97, 114]⟩, 124, 0, false⟩,
  ⟨⟨#[118, 101, 114, 116]⟩, 124, 0, false⟩, ⟨⟨#[119, 101, 105, 101, 114, 112]⟩, 8472, 0, false⟩, ⟨⟨#[120, 105]⟩, 958, 0, false⟩, ⟨⟨#[121, 97, 99, 117, 116, 101]⟩, 253, 0, true⟩,
  ⟨⟨#[121, 101, 110]⟩, 165, 0, true⟩, ⟨⟨#[121, 117, 109, 108]⟩, 255, 0, true⟩, ⟨⟨#[122, 101, 116, 97]⟩, 950, 0, false⟩, ⟨⟨#[122, 102, 114]⟩, 120119, 0, false⟩,
  ⟨⟨#[122, 119, 106]⟩, 8205, 0, false⟩, ⟨⟨#[122, 119, 110, 106]⟩, 8204, 0, false⟩
  ]
def api_Entities.f : Option (List S43) := some tab
theorem tab_length : tab.length = 301 := by decide +kernel

namespace Ent
/-- An entity's value. -/
def ent (x : S43) : Value := .agg #[.string x.f0, .int .i32 x.f1, .int .i32 x.f2, .bool x.f3]
/-- The operation that builds it. -/
def mkB (k : Nat) (x : S43) : Oper := { dst := some k, op := .build 43 #[(0, .const (.string x.f0)), (1, .const (.int .i32 x.f1)), (2, .const (.int .i32 x.f2)), (3, .const (.bool x.f3))], type := 43, pos := "entities.go:13", after := #[], guard := none }
def mkBs : Nat → List S43 → List Oper
  | _, [] => []
  | k, x :: l => mkB k x :: mkBs (k + 1) l
def parts : List (Nat × Operand) := (List.range 301).map fun i => (i, Operand.tmp (i + 1))
def opS : Oper := { dst := some 302, op := .buildSlice 40 301 parts.toArray, type := 40, pos := "entities.go:13", after := ((List.range 301).map fun i => ({ on := i, ground := .data } : Edge)).toArray, guard := none }
def opL : Oper := { dst := some 0, op := .assign (.tmp 302), type := 40, pos := "entities.go:13", after := (({ on := 301, ground := .data } : Edge) :: (List.range 302).map fun i => ({ on := i, ground := if i = 301 then .phase else .phase } : Edge)).toArray, guard := none }
def op0 : Oper := { dst := some 0, op := .assign (.const (.slice none 0 0)), type := 40, pos := "entities.go:12", after := #[], guard := none }
theorem body : Try.f19.body = some (.seq (.region 0 [op0].toArray false) (.seq (.region 1 (mkBs 1 tab ++ [opS, opL]).toArray false) .ret)) := by kernel_rfl

theorem run_build (a : Act) (w : World) (k : Nat) (x : S43) : (execOp a.eval (mkB k x)).run Try.prog w = .ok (.value (ent x)) w := by
  obtain ⟨s, p, q, b⟩ := x
  kernel_rfl

def putAll : Nat → List S43 → Act → Act
  | _, [], a => a
  | k, x :: l, a => putAll (k + 1) l (a.put (some k) (ent x))

theorem wl_builds {ops : Array Oper} {Q : Exit → Act → World → Prop} {rest : List Oper} {W : World} : ∀ (l : List S43) (k : Nat) (a : Act),
    wpList Try.prog ops Q rest (putAll k l a) W → wpList Try.prog ops Q (mkBs k l ++ rest) a W
  | [], _, _, h => h
  | x :: l, k, a, h => Kd.event_run (o := mkB k x) rfl (run_build a W k x) (wl_builds l (k + 1) _ h)

theorem putAll_size : ∀ (l : List S43) (k : Nat) (a : Act), (putAll k l a).tmps.size = a.tmps.size
  | [], _, _ => rfl
  | x :: l, k, a => by rw [putAll, putAll_size l]; simp [Act.put]
theorem putAll_defers : ∀ (l : List S43) (k : Nat) (a : Act), (putAll k l a).defers = a.defers
  | [], _, _ => rfl
  | x :: l, k, a => by rw [putAll, putAll_defers l]; rfl
theorem putAll_low : ∀ (l : List S43) (k j : Nat) (a : Act), j < k → (putAll k l a).tmps[j]? = a.tmps[j]?
  | [], _, _, _, _ => rfl
  | x :: l, k, j, a, h => by
    rw [putAll, putAll_low l (k + 1) j _ (by omega)]
    simp only [Act.put]
    rw [Array.getElem?_setIfInBounds]
    rw [if_neg (by omega)]
theorem putAll_at : ∀ (l : List S43) (k j : Nat) (a : Act), k + l.length ≤ a.tmps.size → ∀ (h : j < l.length), (putAll k l a).tmps[k + j]? = some (ent l[j])
  | x :: l, k, 0, a, hs, h => by
    rw [putAll, putAll_low l (k + 1) (k + 0) _ (by omega)]
    simp only [Act.put]
    rw [Array.getElem?_setIfInBounds, if_pos (by omega), if_pos (by simp at hs; omega)]
    rfl
  | x :: l, k, j + 1, a, hs, h => by
    have e : k + (j + 1) = (k + 1) + j := by omega
    rw [putAll, e, putAll_at l (k + 1) j _ (by simp [Act.put] at hs ⊢; omega) (by simpa using h)]
    rfl

/-- The cells of a list of entities. -/
def cells : List S43 → List Value
  | [] => []
  | x :: l => [.string x.f0, .int .i32 x.f1, .int .i32 x.f2, .bool x.f3] ++ cells l
theorem cells_length : ∀ l, (cells l).length = l.length * 4
  | [] => rfl
  | x :: l => by simp [cells, cells_length l]; omega
theorem cells_append : ∀ l m, cells (l ++ m) = cells l ++ cells m
  | [], _ => rfl
  | x :: l, m => by simp [cells, cells_append l m]

theorem fold4 (n : Nat) (a b c d : Value) (cs : Array Value) : (#[a, b, c, d] : Array Value).zipIdx.foldl (fun cs (c, j) => cs.setIfInBounds (n + j) c) cs =
    (((cs.setIfInBounds (n + 0) a).setIfInBounds (n + 1) b).setIfInBounds (n + 2) c).setIfInBounds (n + 3) d := by
  rw [← Array.foldl_toList, Array.toList_zipIdx]
  rfl
theorem set4 (n : Nat) (a b c d p0 p1 p2 p3 : Value) (pre post : List Value) (h : pre.length = n) :
    ((((pre ++ p0 :: p1 :: p2 :: p3 :: post).toArray.setIfInBounds (n + 0) a).setIfInBounds (n + 1) b).setIfInBounds (n + 2) c).setIfInBounds (n + 3) d =
      (pre ++ ([a, b, c, d] : List Value) ++ post).toArray := by
  subst h
  simp
/-- 'fill' lays the entities from the i-th on behind what is laid. -/
theorem fill_from : ∀ (l : List S43) (i : Nat) (pre post : List Value), pre.length = i * 4 → post.length = l.length * 4 →
    Instr.fill (fun i => some (i * 4, 4)) (pre ++ post).toArray ((l.zipIdx i).map fun p => (p.2, ent p.1)) = some (pre ++ cells l).toArray
  | [], i, pre, post, h1, h2 => by
    have : post = [] := List.eq_nil_of_length_eq_zero (by simpa using h2)
    subst this
    simp [Instr.fill, cells]
  | x :: l, i, pre, post, h1, h2 => by
    match post, h2 with
    | p0 :: p1 :: p2 :: p3 :: post, h2 =>
      have h2' : post.length = l.length * 4 := by simp at h2; omega
      have ih := fill_from l (i + 1) (pre ++ [.string x.f0, .int .i32 x.f1, .int .i32 x.f2, .bool x.f3]) post (by simp; omega) h2'
      simp only [List.zipIdx_cons, List.map_cons, Instr.fill]
      rw [if_neg]
      · have e : (ent x).cells.zipIdx.foldl (fun cs (c : Value × Nat) => cs.setIfInBounds (i * 4 + c.2) c.1) (pre ++ p0 :: p1 :: p2 :: p3 :: post).toArray =
            (pre ++ ([.string x.f0, .int .i32 x.f1, .int .i32 x.f2, .bool x.f3] : List Value) ++ post).toArray := by
          refine Eq.trans (fold4 (i * 4) (.string x.f0) (.int .i32 x.f1) (.int .i32 x.f2) (.bool x.f3) _) ?_
          exact set4 (i * 4) _ _ _ _ p0 p1 p2 p3 pre post h1
        exact (congrArg (fun z => Instr.fill (fun i => some (i * 4, 4)) z ((l.zipIdx (i + 1)).map fun p => (p.2, ent p.1))) e).trans (ih.trans (congrArg some (congrArg List.toArray (List.append_assoc _ _ _))))
      · simp [ent, Value.cells]; omega
    | [], h2 => simp at h2
    | [_], h2 => simp at h2; omega
    | [_, _], h2 => simp at h2; omega
    | [_, _, _], h2 => simp at h2; omega
def zero4 : Array Value := #[.string ⟨#[]⟩, .int .i32 0, .int .i32 0, .bool false]
def zs : Array Value := (Array.range (301 * 4)).map fun i => zero4[i % zero4.size]!
theorem zs_size : zs.size = 301 * 4 := by unfold zs; rw [Array.size_map, Array.size_range]
theorem parts_eval (a : Act) (l : List S43) (hl : l.length = 301) (h : ∀ j (hj : j < l.length), a.tmps[1 + j]? = some (ent l[j])) :
    parts.toArray.map (fun (i, x) => (i, a.eval x)) = ((l.zipIdx 0).map fun p => (p.2, ent p.1)).toArray := by
  rw [List.map_toArray]
  congr 1
  apply List.ext_getElem
  · simp [parts, hl]
  · intro j h1 h2
    have hj : j < l.length := by simpa using h2
    have e : a.tmps.getD (j + 1) undef = ent l[j] := by
      have := h j hj
      rw [Nat.add_comm] at this
      simp [this]
    simp [parts, Act.eval]
    simpa using e
theorem run_slice (a : Act) (w : World) (l : List S43) (hl : l.length = 301) (h : ∀ j (hj : j < l.length), a.tmps[1 + j]? = some (ent l[j])) :
    (execOp a.eval opS).run Try.prog w = .ok (.value (.slice (some ⟨w.heap.size, 0, none⟩) 301 301)) (w.alloc (.cells (cells l).toArray 43)) := by
  have hf := fill_from l 0 [] zs.toList rfl (by rw [Array.length_toList, zs_size, hl])
  rw [List.nil_append, List.nil_append, Array.toArray_toList] at hf
  have h1 : execOp a.eval opS = (do pure (.value (← Instr.buildSlice 40 301 (parts.toArray.map fun (i, x) => (i, a.eval x)))) : Sem Next) := rfl
  rw [h1, parts_eval a l hl h]
  generalize hp : ((l.zipIdx 0).map fun p => (p.2, ent p.1)) = ps at hf
  have h2 : (Instr.buildSlice 40 301 ps.toArray).run Try.prog w = .ok (.slice (some ⟨w.heap.size, 0, none⟩) 301 301) (w.alloc (.cells (cells l).toArray 43)) := by
    unfold Instr.buildSlice
    have hz : (zeroValue 43).run Try.prog w = .ok (.agg zero4) w := by kernel_rfl
    have hs : (sizeOf 43).run Try.prog w = .ok 4 w := by kernel_rfl
    have e : ((Array.range (301 * 4)).map fun i => (Value.agg zero4).cells[i % (Value.agg zero4).cells.size]!) = zs := rfl
    have g1 : ¬ (301 * 4 > 2 ^ 24) := by decide
    have g2 : ¬ (301 * 4 = 0) := by decide
    simp only [Sem.run_bind, run_underlying Try.underlying40 w, Result.andThen_ok, hs, if_neg g1, if_neg g2, hz, Sem.run_pure]
    rw [e, hf]
    rfl
  simp [h2]
theorem reps (w : World) (base : Nat) (ok : Nat → Prop) : ∀ l : List S43, Reps (k43.M w base ok) 4 l (cells l)
  | [] => Reps.none _ _
  | x :: l => by
    have ih := reps w base ok l
    refine ⟨by rw [cells_length], fun j p hj => ?_⟩
    cases j with
    | zero =>
      obtain rfl : x = p := by simpa using hj
      exact k43_mkM w base ok x
    | succ j =>
      have := ih.2 j p (by simpa using hj)
      have e : (j + 1) * 4 = j * 4 + 4 := by omega
      rw [e]
      simpa [cells, List.drop_append] using this
end Ent
open Ent in
theorem api_Entities.calls (r : List S43) (w : World) (h : api_Entities.f = some r) :
    Calls Try.prog 19 #[] w fun e w' => ∃ v0_ : Value, e = .returned (v0_) ∧ Kd.R k43 43 w' w.heap.size (fun _ => True) v0_ r ∧ Below w.heap.size w w' := by
  obtain rfl : tab = r := Option.some.inj h
  refine calls_of_wp Try.func19 body ?_
  generalize hA : ({ tmps := #[] ++ Array.replicate (Try.f19.ntmps - (#[] : Array Value).size) undef, defers := [] } : Act) = A
  have hs : A.tmps.size = 301 + 2 := by
    subst hA
    have : Try.f19.ntmps = 301 + 2 := by kernel_rfl
    rw [Array.empty_append, Array.size_replicate, this]
    rfl
  have hd : A.defers = [] := by subst hA; rfl
  clear hA
  refine wp_seq (wp_region_lit (Kd.event_run (o := op0) (v := .slice none 0 0) (w1 := w) rfl rfl ?_))
  have hs1 : (A.put op0.dst (.slice none 0 0)).tmps.size = 301 + 2 := by simp [Act.put, op0, hs]
  have hd1 : (A.put op0.dst (.slice none 0 0)).defers = [] := hd
  generalize A.put op0.dst (.slice none 0 0) = B at hs1 hd1
  refine wpList_nil ?_
  show (Code.seq _ _).wp _ _ B w
  refine wp_seq (wp_region_lit (wl_builds tab 1 B ?_))
  have ha : ∀ j (hj : j < tab.length), (putAll 1 tab B).tmps[1 + j]? = some (ent tab[j]) := fun j hj => putAll_at tab 1 j B (by rw [hs1, tab_length]; omega) hj
  have hs2 := (putAll_size tab 1 B).trans hs1
  have hd2 := (putAll_defers tab 1 B).trans hd1
  generalize putAll 1 tab B = C at ha hs2 hd2
  refine Kd.event_run (o := opS) rfl (run_slice C w tab tab_length ha) ?_
  have hs3 : (C.put opS.dst (.slice (some ⟨w.heap.size, 0, none⟩) 301 301)).tmps[301 + 1]? = some (.slice (some ⟨w.heap.size, 0, none⟩) 301 301) := by
    simp [Act.put, opS, hs2]
  have hs4 : (C.put opS.dst (.slice (some ⟨w.heap.size, 0, none⟩) 301 301)).tmps.size = 301 + 2 := by simp [Act.put, opS, hs2]
  have hd3 : (C.put opS.dst (.slice (some ⟨w.heap.size, 0, none⟩) 301 301)).defers = [] := hd2
  generalize C.put opS.dst (.slice (some ⟨w.heap.size, 0, none⟩) 301 301) = D at hs3 hs4 hd3
  refine Kd.event_run (o := opL) (v := .slice (some ⟨w.heap.size, 0, none⟩) 301 301) (w1 := w.alloc (.cells (cells tab).toArray 43)) rfl ?_ ?_
  · have e : D.eval (.tmp (301 + 1)) = .slice (some ⟨w.heap.size, 0, none⟩) 301 301 := by simp [Act.eval, Array.getD_eq_getD_getElem?, hs3]
    have e2 : execOp D.eval opL = .pure (.value (D.eval (.tmp (301 + 1)))) := rfl
    rw [e2, e]
    rfl
  refine wpList_nil ?_
  show Code.ret.wp _ _ _ _
  refine wp_ret ?_
  refine bodyPost_ret (v := .slice (some ⟨w.heap.size, 0, none⟩) 301 301) ?_ hd3 ⟨_, rfl, ?_, (Below.refl _ _).alloc (Nat.le_refl _) _⟩
  · rw [results_tmp (t := 0) (by kernel_rfl)]
    simp [Act.put, opL, hs4]
  · refine ⟨fun _ _ => trivial, cells tab, ?_, ?_⟩
    · have h2 := World.ownsRow_lit (base := w.heap.size) (e := 43) (size := 4) w (cells tab).toArray tab.length (Nat.le_refl _) (by rw [tab_length]; decide) (by simp [cells_length])
      rw [tab_length] at h2
      rw [tab_length]
      exact h2
    · exact reps _ _ _ tab
end Go.Proofs.Ytkinpihjjelcpaa.PE
